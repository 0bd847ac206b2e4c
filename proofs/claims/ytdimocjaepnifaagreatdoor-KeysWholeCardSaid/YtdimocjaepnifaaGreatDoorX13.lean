import Derived.Test.YtdimocjaepnifaaGreatDoorX12
set_option linter.all false
set_option maxRecDepth 100000
set_option maxHeartbeats 4000000
namespace Go.Proofs.YtdimocjaepnifaaGreatDoor
open Go Go.Sx Go.Proofs.Tryz
variable {r:List Int}{a c q q' u:D4}{g z:Bool}{d l:Option (List j9)}{b e hi i lo m:Int}{mp:Option (List Qt)}
def dgT(s:C8):C8:=((Lib.trimPrefix s [27,91,60]).drop (0:Int).toNat).take ((((Lib.trimPrefix s [27,91,60]).length:Int)-1).toNat-(0:Int).toNat)
def mdG(s:C8):Bool:=!Lib.hasPrefix s [27,91,77]
def mdP(s:C8):Bool:=if mdG s=true then Lib.hasPrefix s [27,91,60] && decide ((O9 (dgT s)).2=0)else true
def byA(s:C8)(i:Int):Int:=((s.getD i.toNat 0).toNat:Int)
def mdN(s:C8):Int:=if mdG s=true then Q9 (O9 (dgT s)).1 0 0 else byA s 3-32
def mdC(s:C8):Int:=if mdG s=true then Q9 (O9 (dgT s)).1 1 0-1 else byA s 4-33
def mdR(s:C8):Int:=if mdG s=true then Q9 (O9 (dgT s)).1 2 0-1 else byA s 5-33
def mdL(s:C8):Int:=byA s ((s.length:Int)-1)
def mdW(g:Bool)(n l:Int):Int:=if n / 64%2*64≠0 then 3 else if n / 32%2*32≠0 then 2 else if(g=true/\l=109)∨(g=false/\n%4=3)then 1 else 0
def mdV(s:C8):Int:=mdW (mdG s) (mdN s) (mdL s)
def mdB(s:C8):Bool:=mdP s && (decide (U9 2 0 (mdN s / 4%8) (mdV s) (mdN s%4) (mdR s) (mdC s) []) && decide (moS (mdG s) (mdN s / 4%8) (mdV s) (mdN s%4) (mdR s) (mdC s)=s))
def A0f{s:C8}(h:mdP s=false):mdB s=false:=by unfold mdB;rw[h];rfl
def B2f{s:C8}{n w r c:Int}(f:mdN s=n)(o:mdV s=w)(k:mdR s=r)(j:mdC s=c)(h:¬U9 2 0 (n / 4%8) w (n%4) r c []):mdB s=false:=by
 unfold mdB;rw[f,o,k,j,C9 h,Q5,P5]
def B2e{s:C8}{n w r c:Int}(j:mdG s=g)(f:mdN s=n)(p:mdV s=w)(o:mdR s=r)(k:mdC s=c)(h:moS g (n / 4%8) w (n%4) r c≠s):mdB s=false:=by
 unfold mdB;rw[j,f,p,o,k,C9 h,P5,P5]
def B72{s:C8}{n w r c:Int}(j:mdG s=g)(f:mdN s=n)(t:mdV s=w)(o:mdR s=r)(k:mdC s=c)(hp:mdP s=true)(p:U9 2 0 (n / 4%8) w (n%4) r c [])(h:¬moS g (n / 4%8) w (n%4) r c≠s):mdB s=true:=by
 unfold mdB;rw[hp,j,f,t,o,k,D3 p,D3 (K2.1 h)];rfl
def B25{p:Prop}[Decidable p](h:(if p then(0:Int)else 430)≠0):¬p:=fun k=>h (A4 k)
def A5v{p:Prop}[Decidable p](h:¬(if p then(0:Int)else 430)≠0):p:=by
 by_cases k:p
 .exact k
 .rw[A3 k]at h;exact absurd B8 h
def B6h{s:C8}(h:mdG s=true):mdN s=Q9 (O9 (dgT s)).1 0 0/\mdC s=Q9 (O9 (dgT s)).1 1 0-1/\mdR s=Q9 (O9 (dgT s)).1 2 0-1:=⟨A4 h,A4 h,A4 h⟩
def B6i{s:C8}(h:mdG s=false):mdN s=byA s 3-32/\mdC s=byA s 4-33/\mdR s=byA s 5-33:=⟨A3 (by rw[h];decide),A3 (by rw[h];decide),A3 (by rw[h];decide)⟩
def B55{s:C8}(h:Lib.hasPrefix s [27,91,60]=true)(f:4<=(s.length:Int)):1<=((Lib.trimPrefix s [27,91,60]).length:Int)/\((Lib.trimPrefix s [27,91,60]).length:Int)<=(s.length:Int):=by
 unfold Lib.trimPrefix;rw[A4 h,F6];show 1<=(((s.length-3:Nat)):Int)/\(((s.length-3:Nat)):Int)<=_;omega
def l9{o s v k f n x w a2 a3 a4 a5 j p:Int}{c d:Bool}{u t:C8}(h1:w=o)(D:a2=s)(h3:a3=v)(C:a4=k)(h:a5=f)(E:j=n)(y:p=x)(B:u=t)(A:c=d):[U.int .i64 w,.int .i64 a2,.int .i64 a3,.int .i64 a4,.int .i64 a5,.int .i64 j,.int .i64 p,.str u,.bool c]=[U.int .i64 o,.int .i64 s,.int .i64 v,.int .i64 k,.int .i64 f,.int .i64 n,.int .i64 x,.str t,.bool d]:=by rw[h1,D,h3,C,h,E,y,B,A]
def A5Q(h:(!z)=false):z=true:=by cases z<;>first|rfl|cases h
noncomputable def C0t:L5:=⟨_,fun f=>(.cons (B7h f) (.cons (ZD f) (.cons (B8P f) (.cons (B9A f) (.cons (A00 f) (.cons (B9V f) .nil))))))⟩
def TF:List U->Option (Nat×List U)
 | [.str s]=>if 3<=(s.length:Int)/\(Lib.hasPrefix s [27,91,60]=false∨4<=(s.length:Int))/\(Lib.hasPrefix s [27,91,77]=false∨6<=(s.length:Int))/\(s.length:Int)<=100000 then some (0,[.int .i64 (ifI (mdB s) 2),.int .i64 (0),.int .i64 (ifI (mdB s) (mdN s / 4%8)),.int .i64 (ifI (mdB s) (mdV s)),.int .i64 (ifI (mdB s) (mdN s%4)),.int .i64 (ifI (mdB s) (mdR s)),.int .i64 (ifI (mdB s) (mdC s)),.str ([]),.bool (mdB s)])else none
 | _=>none
def A83(s:C8)(f:3<=(s.length:Int)/\(Lib.hasPrefix s [27,91,60]=false∨4<=(s.length:Int))/\(Lib.hasPrefix s [27,91,77]=false∨6<=(s.length:Int))/\(s.length:Int)<=100000):TF [.str s]=some (0,[.int .i64 (ifI (mdB s) 2),.int .i64 (0),.int .i64 (ifI (mdB s) (mdN s / 4%8)),.int .i64 (ifI (mdB s) (mdV s)),.int .i64 (ifI (mdB s) (mdN s%4)),.int .i64 (ifI (mdB s) (mdR s)),.int .i64 (ifI (mdB s) (mdC s)),.str ([]),.bool (mdB s)]):=A4 f
def R3(a0:Int)(f:Nat)(a2:Nat)(a3:Nat)(a4:Nat):Tr:=.ret [jI 2,jI 0,h3 a4,jI a0,h3 a3,h3 a2,h3 f,.string ⟨⟨[]⟩⟩,.bool true]
def jU(a0:Int)(f:Nat)(a2:Nat)(a3:Nat)(j k:Tr):Tr:=.fn UE [.bool false,.bool false,.bool false,.bool false,.bool false,.bool false,.bool false,.bool false,.bool false,.bool false,.bool false,jI 1003,h 2 8,jI 2,jI 0,h3 (a2+3),jI a0,h3 (a2+1),h3 a2,h3 f,.string ⟨⟨[]⟩⟩] 1<|aN [h a3 9,h 0 9]<|.br (a3+1) j k
def jV(a0:Int)(f:Nat)(a2:Nat)(a3:Nat)(j k:Tr):Tr:=.fn TG [jI 2,jI 0,h3 (a2+3),jI a0,h3 (a2+1),h3 a2,h3 f,.string ⟨⟨[]⟩⟩] 1<|aN [h3 a3,jI 0]<|.br (a3+1) j k
def A5t(n:Nat):Tr:=jV 1 17 19 n F9 (jU 1 17 19 (n+2) F9 (R3 1 17 19 20 22))
def A5s(n:Nat):Tr:=jV 0 17 19 n F9 (jU 0 17 19 (n+2) F9 (R3 0 17 19 20 22))
def A5r(n:Nat):Tr:=jV 0 11 14 n F9 (jU 0 11 14 (n+2) F9 (R3 0 11 14 15 17))
def B23:Tr:=.fn iZ [h 0 9,.string ⟨⟨[27,91,77]⟩⟩] 1<|aX [h 1 8]<|aD [h 0 9]<|aS [h3 3,jI 1]<|.lt 4 (.idx) [h 0 9,h3 4]<|.br 2 (.fn UM [h 0 9,.string ⟨⟨[27,91,60]⟩⟩] 2<|J5 7 8 F9 (aD [h 6 9]<|aS [h3 9,jI 1]<|.lt 9 (.sub) [h 6 9,jI 0,h3 10]<|.fn SB [h 11 9] 2<|dZ 13 14 0 F9 (.fn yY [h 12 11,jI 0,jI 0] 1<|.fn yY [h 12 11,jI 1,jI 0] 1<|aS [h3 16,jI 1]<|.fn yY [h 12 11,jI 2,jI 0] 1<|aS [h3 18,jI 1]<|.lt 3 (.bin .and) [h3 15,jI 3]<|.lt 3 (.bin .shr) [h3 15,.int .u64 (2)]<|.lt 3 (.bin .and) [h3 21,jI 7]<|cY 15 23 64 (jV 3 17 19 25 F9 (jU 3 17 19 27 F9 (R3 3 17 19 20 22))) (cY 15 25 32 (jV 2 17 19 27 F9 (jU 2 17 19 29 F9 (R3 2 17 19 20 22))) (aE [h 5 4,.int .u8 (109)]<|.br 27 (A5t 28) (J5 2 28 (F3 20 29 3 (A5t 30) (A5s 30)) (A5s 29))))))) (.lt 4 (.idx) [h 0 9,jI 3]<|.lt 3 (.conv .i64) [h 6 4]<|aS [h3 7,jI 32]<|.lt 4 (.idx) [h 0 9,jI 4]<|.lt 3 (.conv .i64) [h 9 4]<|aS [h3 10,jI 33]<|.lt 4 (.idx) [h 0 9,jI 5]<|.lt 3 (.conv .i64) [h 12 4]<|aS [h3 13,jI 33]<|.lt 3 (.bin .and) [h3 8,jI 3]<|.lt 3 (.bin .shr) [h3 8,.int .u64 (2)]<|.lt 3 (.bin .and) [h3 16,jI 7]<|cY 8 18 64 (jV 3 11 14 20 F9 (jU 3 11 14 22 F9 (R3 3 11 14 15 17))) (cY 8 20 32 (jV 2 11 14 22 F9 (jU 2 11 14 24 F9 (R3 2 11 14 15 17))) (J5 2 22 (F3 15 23 3 (jV 1 11 14 24 F9 (jU 1 11 14 26 F9 (R3 1 11 14 15 17))) (A5r 24)) (A5r 23))))
def B8N{G}(v:I6 G):I8 prog G 128 [.s 9] TF [.a [3,3,3,3,3,3,3,9],.s 8]:=by
 refine D0 (d:=60) B23 (cxg (C0t.2 v) .nil) v ⟨f128,_,func128,rfl⟩ C3 C3 ?_;intro us outs t;unfold TF at t;split at t
 .skip;rename_i s;split at t
  .rename_i w;cases t;have B:=fun i=>B0G (dgT s) i
   have x:=B 0;have y:=B 1;have A:=B 2;unfold dgT at x y A;have F:(((s.getD (3:Int).toNat 0).toNat:Nat):Int)<256:=by have:=(s.getD (3:Int).toNat 0).toNat_lt;omega
   have D:(((s.getD (4:Int).toNat 0).toNat:Nat):Int)<256:=by have:=(s.getD (4:Int).toNat 0).toNat_lt;omega
   have E:(((s.getD (5:Int).toNat 0).toNat:Nat):Int)<256:=by have:=(s.getD (5:Int).toNat 0).toNat_lt;omega
   have z4:Lib.hasPrefix s [27,91,60]=true->4<=(s.length:Int)/\1<=((Lib.trimPrefix s [27,91,60]).length:Int)/\((Lib.trimPrefix s [27,91,60]).length:Int)<=(s.length:Int):=fun h=>⟨w.2.1.resolve_left (by rw[h];decide),B55 h (w.2.1.resolve_left (by rw[h];decide))⟩
   have C:Lib.hasPrefix s [27,91,77]=true->6<=(s.length:Int):=fun h=>w.2.2.1.resolve_left (by rw[h];decide)
   have I:=w.1;have H:=w.2.2.2;unfold B23;refine w0 (.cons 0 _ (.nil)) ?_;repeat (first|refine w4 (fun g=>?_) fun g=>?_|refine w4B (fun g=>?_) fun g=>?_|(refine w7 [.int .i64 _,.int .i64 _,.int .i64 _,.int .i64 _,.int .i64 _,.int .i64 _,.int .i64 _,.str _,.bool _] ?_;rotate_left)|refine oX ?_|refine oW ?_|refine w31 TG (e:=A84 _ _ _ _ _ _ _ _ ⟨A0,A0,by show(0:Int)<=_;omega⟩) (k':=?_)|refine w31 UE (e:=A9a _ _ _ _ _ _ _ _ _ _ _ _ _ _ _ _ _ _ _ _ _ (A0z (A5v ‹_›) rfl)) (k':=?_)|refine A26 ?_|refine Y3 ?_|refine iD ?_|refine m5 ?_|refine X1 ?_|refine w1 (.idx) (e:=nP _ _ _ A0 A0) (k':=?_)|refine w31 yY (e:=A7n _ _ _ B8) (k':=?_)|refine R8 ?_|refine uX ?_|refine w1 (.bin .and) (e:=fA 2 4 B8 B8 B8) (k':=?_)|refine w1 (.bin .shr) (e:=W6 4 B8 B8) (k':=?_)|refine w1 (.bin .and) (e:=fA 3 8 B8 B8 B8) (k':=?_)|refine w1 (.bin .and) (e:=A6T _) (k':=?_)|refine w1 (.bin .and) (e:=A6U _) (k':=?_)|refine w31 iZ (e:=CF s [27,91,77]) (k':=?_)|refine w32 UM (e:=A9m s [27,91,60]) (k':=?_)|refine w1 (.sub) (e:=wU _ _ _ _ _ A0 A0 A0) (k':=?_)|refine w32 SB (e:=A8e _) (k':=?_)|replace z4:=z4 (A5Q ‹_›)|replace C:=C (A5Q ‹_›))
   all_goals
    first
    | (have j:mdB s=false:=A0f (by unfold mdP mdG;rw[A4 ‹_›,show Lib.hasPrefix s [27,91,60]=false from C1z ‹_›];rfl)
       rw[j];exact l9 rfl rfl rfl rfl rfl rfl rfl rfl rfl)
    | (have j:mdB s=false:=A0f (by unfold mdP mdG;rw[A4 ‹_›,C9 ‹_›,P5])
       rw[j];exact l9 rfl rfl rfl rfl rfl rfl rfl rfl rfl)
    | (have p:mdG s=true:=‹_›
       obtain⟨k,o,n⟩:=B6h p;have hp:mdP s=true:=by
        unfold mdP;rw[A4 p,show Lib.hasPrefix s [27,91,60]=true from A5Q ‹_›,D3 (K2.1 ‹_›)];rfl
       have f:mdV s=mdW true (mdN s) (mdL s):=by unfold mdV;rw[p]
       rw[k]at f;unfold dgT at k f n o;unfold mdW at f
       (repeat (first|rw[A3 ‹_›]at f|rw[A4 ‹_›]at f|rw[A4 (.inl ⟨rfl,by assumption⟩)]at f|rw[A4 (.inr ⟨rfl,by assumption⟩)]at f|rw[A3 (fun h=>h.elim (fun h=>absurd h.2 ‹_›) (fun h=>by cases h.1))]at f|rw[A3 (fun h=>h.elim (fun h=>by cases h.1) (fun h=>absurd h.2 ‹_›))]at f))
       first
       | (have j:=B2f k f n o (B25 ‹_›)
          rw[j];exact l9 rfl rfl rfl rfl rfl rfl rfl rfl rfl)
       | (have j:=B2e rfl k f n o ‹_›
          rw[j];exact l9 rfl rfl rfl rfl rfl rfl rfl rfl rfl)
       | (have j:=B72 rfl k f n o hp (A5v ‹_›) ‹_›
          rw[j,k,f,n,o];exact l9 rfl rfl rfl rfl rfl rfl rfl rfl rfl)
       | (exfalso;simp_all;done)
)
    | (have p:mdG s=false:=‹_›
       obtain⟨k,o,n⟩:=B6i p;have hp:mdP s=true:=by unfold mdP;rw[A3 (by rw[p];decide)]
       have f:mdV s=mdW false (mdN s) (mdL s):=by unfold mdV;rw[p]
       rw[k]at f;unfold byA at k f n o;unfold mdW at f
       (repeat (first|rw[A3 ‹_›]at f|rw[A4 ‹_›]at f|rw[A4 (.inl ⟨rfl,by assumption⟩)]at f|rw[A4 (.inr ⟨rfl,by assumption⟩)]at f|rw[A3 (fun h=>h.elim (fun h=>absurd h.2 ‹_›) (fun h=>by cases h.1))]at f|rw[A3 (fun h=>h.elim (fun h=>by cases h.1) (fun h=>absurd h.2 ‹_›))]at f))
       first
       | (have j:=B2f k f n o (B25 ‹_›)
          rw[j];exact l9 rfl rfl rfl rfl rfl rfl rfl rfl rfl)
       | (have j:=B2e rfl k f n o ‹_›
          rw[j];exact l9 rfl rfl rfl rfl rfl rfl rfl rfl rfl)
       | (have j:=B72 rfl k f n o hp (A5v ‹_›) ‹_›
          rw[j,k,f,n,o];exact l9 rfl rfl rfl rfl rfl rfl rfl rfl rfl)
       | (exfalso;simp_all;done)
)
  .cases t
 .cases t
def sfX(p u:D4):Bool:=decide (((el u).length:Int)<=((el p).length:Int)) && decide (iB (el (P8 p (((el p).length:Int)-(el u).length).toNat ((el p).length:Int).toNat))=iB (el u))
def sfP(p u:D4):D4:=if sfX p u=true then P8 p (0:Int).toNat (((el p).length:Int)-(el u).length).toNat else p
def C1h{p:D4}(h:¬((el p).length:Int)>=(el u).length):sfX p u=false:=by unfold sfX;rw[C9 A0,Q5]
def C1g{p:D4}(h:iB (el (P8 p (((el p).length:Int)-(el u).length).toNat ((el p).length:Int).toNat))≠iB (el u)):sfX p u=false:=by unfold sfX;rw[C9 h,P5]
def C1f{p:D4}(h0:((el p).length:Int)>=(el u).length)(h:iB (el (P8 p (((el p).length:Int)-(el u).length).toNat ((el p).length:Int).toNat))=iB (el u)):sfX p u=true:=by unfold sfX;rw[D3 A0,D3 h];rfl
def B4k{p:D4}{b:Bool}{x:D4}(h:sfX p u=b)(f:x=if b=true then P8 p (0:Int).toNat (((el p).length:Int)-(el u).length).toNat else p):[B2 rB x,U.bool b]=[B2 rB (sfP p u),U.bool (sfX p u)]:=by
 unfold sfP;rw[h,f]
def kX{p:D4}{i j:Nat}(h:∀ x ∈ el p,0<=x/\x<256):∀ x ∈ el (P8 p i j),0<=x/\x<256:=fun x f=>by
 rw[M1]at f;exact h x (K0 (N3 f))
noncomputable def C1B:L5:=⟨_,fun f=>.nil⟩
def KL:List U->Option (Nat×List U)
 | [u_p,u_u]=>(J3 rB u_p).bind fun p=>(J3 rB u_u).bind fun u=>if((el p).length:Int)<=100000000/\((el u).length:Int)<=100000000/\(∀ x ∈ el p,0<=x/\x<256)/\(∀ x ∈ el u,0<=x/\x<256)then some (0,[B2 rB (sfP p u),.bool (sfX p u)])else none
 | _=>none
def A9l(p:D4)(u:D4)(f:((el p).length:Int)<=100000000/\((el u).length:Int)<=100000000/\(∀ x ∈ el p,0<=x/\x<256)/\(∀ x ∈ el u,0<=x/\x<256)):KL [B2 rB p,B2 rB u]=some (0,[B2 rB (sfP p u),.bool (sfX p u)]):=by
 simp only[KL,F1,C4];exact A4 f
def B32:Tr:=aD [h 0 11]<|aD [h 1 11]<|aH [h3 2,h3 3]<|.br 4 (aS [h3 2,h3 3]<|.dt 11 (.subs 1) [h 0 11,h3 5,h3 2]<|.lt 9 (.str) [h 6 11]<|.lt 9 (.str) [h 1 11]<|aE [h 7 9,h 8 9]<|J5 9 10 (.ret [h 0 11,.bool false]) (aS [h3 2,h3 3]<|.dt 11 (.subs 1) [h 0 11,jI 0,h3 11]<|.ret [h 12 11,.bool true])) (.ret [h 0 11,.bool false])
def B9U{G}(n:I6 G):I8 prog G 145 [.s 11,.s 11] KL [.s 11,.s 8]:=by
 refine D0 (d:=60) B32 (cxg (C1B.2 n) .nil) n ⟨f145,_,func145,rfl⟩ C3 C3 ?_;intro us outs f;unfold KL at f;split at f
 .skip;rename_i w x;have o:=A5.1 f;clear f;obtain⟨p,k,f⟩:=o;replace k:=F2 k;subst k;have t:=A5.1 f;clear f;obtain⟨u,j,f⟩:=t;replace j:=F2 j;subst j;split at f
  .rename_i v;cases f;unfold B32;refine w0 (.cons 1 _ (.cons 0 _ (.nil))) ?_;refine P7 ?_;refine P7 ?_;refine bK ?_;refine w5 (fun g0=>?_) fun g0=>?_
   .refine w7 [B2 rB _,.bool _] ?_;exact B4k (C1h g0) rfl
   first|refine oW ?_|refine iC ?_
   refine w2 (.subs 1) (r:=rB) (e:=Z0 rfl A0 A0 A0) (k':=?_);refine w1 (.str) (e:=u9 rfl (by first|exact kX v.2.2.1|exact v.2.2.2)) (k':=?_);refine w1 (.str) (e:=u9 rfl (by first|exact kX v.2.2.1|exact v.2.2.2)) (k':=?_);refine AR ?_;refine Y3 ?_;refine w4 (fun g1=>?_) fun g1=>?_
   .refine w7 [B2 rB _,.bool _] ?_;exact B4k (C1g (by first|exact g1|(simpa using g1))) rfl
   first|refine oW ?_|refine iC ?_
   refine w2 (.subs 1) (r:=rB) (e:=Z0 rfl A0 A0 A0) (k':=?_);refine w7 [B2 rB _,.bool _] ?_;exact B4k (C1f g0 (by first|exact g1|(simpa using g1))) rfl
  .cases f
 .cases f
def rmE(s:C8):C8:=s.filter (fun b=>!(b == 27))
def A4V:∀ s:C8,Lib.replaceK [27] [] (s.count 27) s=rmE s
 | []=>rfl
 | b::r=>by
   have n:=A4V r;by_cases j:b=27
   .subst j;have h0:Lib.index (27::r) [27]=((0:Nat):Int):=by rw[Lib.index_one];rfl
    rw[List.count_cons_self,Lib.replaceK_hit [27] [] _ _ 0 h0];show[]++[]++Lib.replaceK [27] [] (r.count 27) r=_;rw[n];rfl
   .have f:(b == 27)=false:=by simpa using j
    have e:rmE (b::r)=b::rmE r:=by unfold rmE;rw[mM (by simp[f])]
    have o:(b::r).count 27=r.count 27:=by rw[List.count_cons,f];simp
    rw[o,e,<- n];cases p:r.count 27 with
    | zero=>rfl
    | succ k =>
      obtain⟨i,hi⟩:=Lib.index_of_count (s:=r) (old:=[27]) (by rw[Lib.count_one,p];omega);have hi':Lib.index (b::r) [27]=((i+1:Nat):Int):=by
       have hp:([27]:C8).isPrefixOf (b::r)=false:=by
        show((27:UInt8) == b && _)=false;have:((27:UInt8) == b)=false:=by simpa using fun h:(27:UInt8)=b=>j h.symm
        rw[this];rfl
       have hm:¬ ((i:Int) == -1)=true:=fun h=>by have:=beq_iff_eq.1 h;omega
       rw[Lib.index,hp,hi];simp only[L2,if_false];rw[A3 hm];omega
      rw[Lib.replaceK_hit [27] [] k _ _ hi',Lib.replaceK_hit [27] [] k r i hi];rfl
def B5A(s:C8):Lib.replaceAll s [27] []=rmE s:=by
 unfold Lib.replaceAll Lib.replace;rw[A3 B8];have:Lib.replaceNum s [27] (-1)=s.count 27:=by unfold Lib.replaceNum;rw[A4 (.inl B8),Lib.count_one]
 rw[this,A4V]
def RB:List U->Option (Nat×List U)
 | [.str s,.str u,.str v]=>if s.length<=100000000/\u=[27]/\v=[]then some (0,[.str (rmE s)])else none
 | _=>none
def A8D(s:C8)(u:C8)(v:C8)(f:s.length<=100000000/\u=[27]/\v=[]):RB [.str s,.str u,.str v]=some (0,[.str (rmE s)]):=A4 f
def B64{G}(j:I6 G):I8 prog G 29 [.s 9,.s 9,.s 9] RB [.s 9]:=by
 intro us outs w vs R k f x h;unfold RB at f;split at f
 .skip;rename_i s u v;split at f
  .rename_i o;cases f;have p:=y9 (vs2:=[.string ⟨⟨s⟩⟩,.string ⟨⟨u⟩⟩,.string ⟨⟨v⟩⟩]) k rfl;subst p;refine wZ (vr:=[.string ⟨⟨rmE s⟩⟩]) func29 rfl C3 rfl ?_;obtain⟨y,rfl,rfl⟩:=o;have n:ByteArray.size ⟨⟨s⟩⟩=s.length:=rfl;refine(Tryz.strings_ReplaceAll_shaped ⟨⟨s⟩⟩ ⟨⟨[27]⟩⟩ ⟨⟨[]⟩⟩ w (AT j x) A0 B8 (by show _+_*0<=_;omega)).mono fun e w' ⟨h1,t⟩=>⟨?_,t⟩
   rw[show Lib.replaceAll (ByteArray.mk (Array.mk s)).data.toList (ByteArray.mk (Array.mk [27])).data.toList (ByteArray.mk (Array.mk [])).data.toList=rmE s from B5A s]at h1;exact h1
  .cases f
 .cases f
def B8O{l:List Int}(h:knd l=2):U6 (l.getD 0 0)=(l.length:Int)/\okT (l.drop 1) (loB (l.getD 0 0)) (hiB (l.getD 0 0))=true:=by
 unfold knd at h;split at h
 .omega
 .split at h
  .rename_i f;split at h
   .omega
   .exact⟨A0,f⟩
  .omega
def B5H{a:Int}(h:okT (a::r) lo hi=true):lo<=a/\a<=hi/\okT r 128 191=true:=by
 have h:(decide (lo<=a/\a<=hi) && okT r 128 191)=true:=h;obtain⟨h1,f⟩:=P6 h
 have:=F4 h1;exact⟨this.1,this.2,f⟩
def A64{l:List Int}(j:∀ x ∈ l,0<=x/\x<256)(h:knd l=2):0<=cH l/\cH l<=1114111:=by
 obtain⟨h1,f⟩:=B8O h
 match l,j,h1,f with
 | [],_,h1,_ =>
   have h1:U6 0=0:=h1;exact absurd h1 B8
 | [a],j,h1,_ =>
   have h1:U6 a=1:=h1
   have:=j a (by simp);have e:cH [a]=a:=rfl;rw[e];omega
 | [a,b],j,h1,f =>
   have e:cH [a,b]=a%32*64+b%64:=rfl;rw[e];omega
 | [a,b,c],j,h1,f =>
   have e:cH [a,b,c]=(a%16*64+b%64)*64+c%64:=rfl;rw[e];omega
 | [a,b,c,d],j,h1,f =>
   have e:cH [a,b,c,d]=((a%8*64+b%64)*64+c%64)*64+d%64:=rfl;have h1:U6 a=4:=h1;have f:okT [b,c,d] (loB a) (hiB a)=true:=f;obtain⟨n,o,_⟩:=B5H f;have k:240<=a/\a<=244:=by unfold U6 at h1;(repeat' split at h1)<;>omega
   have hh:(a=244/\hiB a=143)∨(a<=243/\hiB a<=191):=by unfold hiB;(repeat' split)<;>omega
   have p:128<=loB a:=by unfold loB;(repeat' split)<;>omega
   rw[e];omega
 | a::b::c::d::x::r,j,h1,f =>
   have h1:U6 a=((a::b::c::d::x::r).length:Int):=h1
   have:=A0t (l:=a::r);have:U6 a<=4:=this;simp only[B6]at h1;omega
def ZG{l:List Int}(p:∀ x ∈ l,0<=x/\x<256)(h0:0<=b)(h1:b<256):∀ x ∈ el (utC l b),0<=x/\x<=1114111:=by
 have j:∀ x ∈ l++[b],0<=x/\x<256:=fun x f=>by
  rcases B5.1 f with h|h
  .exact p x h
  .have:x=b:=by simpa using h
   omega
 have o:∀ x ∈ [b],0<=x/\x<256:=fun x f=>j x (x8 _ f)
 have n:∀ x ∈ el (sR b),0<=x/\x<=1114111:=by
  unfold sR;split
  .rename_i k;intro x f;have e:x=cH [b]:=by simpa [el]using f
   rw[e];exact A64 o k
  .split
   .intro x f;cases f
   .intro x f;have e:x=65533:=by simpa [el]using f
    omega
 unfold utC;split
 .rename_i k;intro x f;have e:x=cH (l++[b]):=by simpa [el]using f
  rw[e];exact A64 j k
 .split
  .intro x f;cases f
  .split
   .intro x f;have e:x=65533:=by simpa [el]using f
    omega
   .intro x f;have f:x=65533∨x ∈ el (sR b):=by simpa [el]using f
    rcases f with e|f
    .omega
    .exact n x f
def LP{l:List Int} :((el (utC l b)).length:Int)<=2:=by
 have:=PV b;unfold utC
 (repeat' split)<;>simp[el]<;>first|omega|(have e:(sR b).getD []=el (sR b):=rfl;rw[e];omega)
def ZF{l:List Int} :((el (utR l b)).length:Int)<=3:=by
 unfold utR;split
 .simp[el]
 .split
  .rename_i k;have:=iV k;simp only[E3];exact this
  .split
   .simp[el]
   .unfold VT;split
    .simp[el]
    .simp[el]
noncomputable def A7c:List LpE:=[(99,([true,true,true,true,true,false,true,false],O5 prog gl n0 26 B3b oI)),(72,([true,true,false,true,false],O5 prog gl n0 7 QP lK)),(72,([true,true,false,true,false,false,true,false,false,true,false],O5 prog gl n0 7 IJ pB))]
def kK{G}(f:I6 G):g8 prog G gl A7c:=(.cons func99 B3a B3Z (B8v f) (.cons func72 QO QN (ZN f) (.cons func72 II IH (QQ f) .nil)))
def fs1(f:C8)(r:D4):D4:=if 0<((el r).length:Int)then S0 (some (bI f)) r else none
def fsP(f:C8)(q:D4)(b:Int):D4:=if((el q).length:Int)=0/\b=27 then some [27]else if((el q).length:Int)=0/\b<128 then none else
 if 0<((el (utC (el q) b)).length:Int)/\0<((el (utR (el q) b)).length:Int)then utR (el q) b else cP (el (utC (el q) b)) (fs1 f (utR (el q) b))
def fsI(f:C8)(q:D4)(b:Int)(l:Option (List j9)):Option (List j9):=if((el q).length:Int)=0/\b=27 then l else if((el q).length:Int)=0/\b<128 then some (el l++[ipK (plC b) (plM b+(f.length:Int)*2)])else
 cI (el (utC (el q) b)) ((f.length:Int)*2) l
def B8o{f:C8}(h:((el q).length:Int)=0/\b=27):some [27]=fsP f q b/\l=fsI f q b l:=by unfold fsP fsI;rw[A4 h,A4 h];exact⟨rfl,rfl⟩
def B8n{f:C8}(h:¬(((el q).length:Int)=0/\b=27))(j:((el q).length:Int)=0/\b<128):none=fsP f q b/\some (el l++[ipK (plC b) (plM b+(f.length:Int)*2)])=fsI f q b l:=by unfold fsP fsI;rw[A3 h,A4 j,A3 h,A4 j];exact⟨rfl,rfl⟩
def C2E{f:C8}(h:¬(((el q).length:Int)=0/\b<128))(j:0<((el (utC (el q) b)).length:Int)/\0<((el (utR (el q) b)).length:Int)):utR (el q) b=fsP f q b/\cI (el (utC (el q) b)) ((f.length:Int)*2) l=fsI f q b l:=by
 unfold fsP fsI;rw[A3 A0,A3 h,A4 j,A3 A0,A3 h];exact⟨rfl,rfl⟩
def C2D{f:C8}(h:¬(((el q).length:Int)=0/\b<128))(j:¬(0<((el (utC (el q) b)).length:Int)/\0<((el (utR (el q) b)).length:Int)))(hr:0<((el (utR (el q) b)).length:Int)):cP (el (utC (el q) b)) (S0 (some (bI f)) (utR (el q) b))=fsP f q b/\cI (el (utC (el q) b)) ((f.length:Int)*2) l=fsI f q b l:=by
 unfold fsP fsI fs1;rw[A3 A0,A3 h,A3 j,A4 hr,A3 A0,A3 h];exact⟨rfl,rfl⟩
def C2C{f:C8}(h:¬(((el q).length:Int)=0/\b<128))(hr:¬0<((el (utR (el q) b)).length:Int)):cP (el (utC (el q) b)) none=fsP f q b/\cI (el (utC (el q) b)) ((f.length:Int)*2) l=fsI f q b l:=by
 unfold fsP fsI fs1;rw[A3 A0,A3 h,A3 (fun h=>hr h.2),A3 hr,A3 A0,A3 h];exact⟨rfl,rfl⟩
def B5h{a:Int}(h:a=0∨a=4)(f:m=0∨m=2):evU (.bin .or) [.int .i64 a,.int .i64 m]=.int .i64 (a+m):=by
 rcases h with rfl|rfl<;>rcases f with rfl|rfl<;>rfl
def TR{b:Option (List j9)}(h:a=c/\b=d):[B2 rB c,B2 rI d,B2 rQ mp]=[B2 rB a,B2 rI b,B2 rQ mp]:=by rw[h.1,h.2]
noncomputable def C0x:L5:=⟨_,fun f=>(.cons (qO f) (.cons (B0I f) (.cons (B20 f) .nil)))⟩
def tE:List U->Option (Nat×List U)
 | [.str f,u_q,.int .u8 b,u_p,u_inp,u_mp]=>(J3 rB u_q).bind fun q=>(J3 rB u_p).bind fun p=>(J3 rI u_inp).bind fun j=>(J3 rQ u_mp).bind fun mp=>if(f=[]∨f=[27])/\(((el q).length:Int)<=100/\(((el q).length:Int)=0∨knd (el q)=1)/\0<=b/\b<256/\∀ x ∈ el q,0<=x/\x<256)/\((el j).length:Int)<=900000 then some (0,[B2 rB (fsP f q b),B2 rI (fsI f q b j),B2 rQ mp])else none
 | _=>none
def OA(f:C8)(q:D4)(b:Int)(p:D4)(j:(Option (List (Int×Int×Int×Int×Int×Int×Int×C8))))(mp:(Option (List (C8×Int×Int×Int×Int×Int×Int×Int×C8))))(k:(f=[]∨f=[27])/\(((el q).length:Int)<=100/\(((el q).length:Int)=0∨knd (el q)=1)/\0<=b/\b<256/\∀ x ∈ el q,0<=x/\x<256)/\((el j).length:Int)<=900000):tE [.str f,B2 rB q,.int .u8 b,B2 rB p,B2 rI j,B2 rQ mp]=some (0,[B2 rB (fsP f q b),B2 rI (fsI f q b j),B2 rQ mp]):=by
 simp only[tE,F1,C4];exact A4 k
def B8l:Q7:=⟨[(0,.pointer (some ⟨9,0,none⟩)),(1,h 0 9),(2,dat 14 1 11),(3,h 2 4)],[(9,.cells 83 [dat 15 3 11,.map (some 7),own 16 4 18]),(7,.mp 5 19 81),(16,.sq 4 18 23 17),(14,.frz),(15,.frz),(17,.frz)],6,[⟨.ret,[(0,.pointer (some ⟨9,0,none⟩))],[(9,.cells 83 [dat 18 0 11,.map (some 7),own 19 1 18]),(7,.mp 2 19 81),(19,.sq 1 18 23 20),(18,.frz),(20,.frz)],3⟩]⟩
noncomputable def B8m:Code:=(f99.body).getD .skip
def B8k:f99.body=some B8m:=rfl
def n8(a0:Nat)(f:Nat):Tr:=.ret [jI 0,h f 11,h a0 18,h (a0+1) 19]
def A6E(n:Nat):Tr:=.fn HZ [h 1 11,h 2 4] 2<|aU n (n+2) 0 (.dt 11 (.byt) [h 0 9]<|.dt 11 (.cat 1) [h (n+4) 11,h n 11]<|aD [h (n+1) 11]<|.fn oI [h3 7,h n 11,h (n+1) 11,h (n+1) 11,h3 (n+6),jI 0,h (n+5) 11,h 4 18,h 5 19] 5<|aU (n+8) (n+12) 0 (aU (n+7) (n+14) 0 (n8 (n+10) (n+7)) (n8 (n+10) (n+9))) (n8 (n+10) (n+9))) (aD [h (n+1) 11]<|.dt 11 (.nilw 1) []<|.fn oI [h3 7,h n 11,h (n+1) 11,h (n+1) 11,h3 (n+4),jI 0,h (n+5) 11,h 4 18,h 5 19] 5<|aU (n+7) (n+11) 0 (aU (n+6) (n+13) 0 (n8 (n+9) (n+6)) (n8 (n+9) (n+8))) (n8 (n+9) (n+8)))
def LZ(a0:Nat)(f:Nat)(a2:Nat)(a3:Nat):Tr:=.dt 18 (.snoc 8) [h a0 18,h3 f,h3 (f+1),h3 a2,h3 (f+3),h3 (f+4),h3 (f+5),h3 (f+6),h (f+7) 9]<|.dt 11 (.nilw 1) []<|.ret [jI 0,h (a3+1) 11,h a3 18,h (a0+1) 19]
def A6D(n:Nat):Tr:=F3 8 n 0 (aL [h 2 4,.int .u8 (128)]<|.br (n+1) (.fn ET [h 2 4] 8<|.lt 3 (.bin .or) [h3 (n+4),h3 7]<|LZ 4 (n+2) (n+10) (n+11)) (A6E (n+2))) (A6E (n+1))
def B3P:Tr:=aD [h 0 9]<|.lt 3 (.bin .mul) [h3 6,jI 2]<|n9 0 1 8 (gJ 2 10 (.dt 11 (.mk 1) [.int .u8 (27)]<|n8 4 11) (A6D 11)) (A6D 10)
def B3Q{G}(v:I6 G):LI prog G gl 99 (SP prog f99 gl n0 21 B8l tE):=by
 refine NK (dep:=60) (f:=99) (n0:=n0) (nB:=21) (H0:=H0) B3P (cxg (C0x.2 v) (kK v)) v func99 B8k C3 C3 C3 ?_;intro us d outs k;have C:=k;unfold tE at k;split at k
 .skip;rename_i f F b E B D;have h:=A5.1 k;clear k;obtain⟨q,o,k⟩:=h;replace o:=F2 o;subst o;have y:=A5.1 k;clear k;obtain⟨p,s,k⟩:=y;replace s:=F2 s;subst s;have t:=A5.1 k;clear k;obtain⟨A,j,k⟩:=t;replace j:=F2 j;subst j;have w:=A5.1 k;clear k;obtain⟨mp,n,k⟩:=w;replace n:=F2 n;subst n;split at k
  .rename_i x;clear k C;have J:(f.length:Int)=0∨(f.length:Int)=1:=by rcases x.1 with rfl|rfl<;>decide
   have I:=LP (l:=el q) (b:=b);have zr:=ZF (l:=el q) (b:=b);have H:=ZG (l:=el q) x.2.1.2.2.2.2 x.2.1.2.2.1 x.2.1.2.2.2.1;refine⟨rfl,?_⟩;unfold B3P;refine w0 (.cons 5 _ (.cons 4 _ (.cons 3 _ (.cons 2 _ (.cons 1 _ (.cons 0 _ (.nil))))))) ?_;repeat (first|refine P7 ?_|(refine w7 [.int .i64 _,B2 rB _,B2 rI _,B2 rQ _] ?_;rotate_left)|refine w4 (fun g=>?_) fun g=>?_|refine cB ?_|(refine w3 oI (e:=eY _ _ _ _ _ _ _ _ _ ⟨rfl,B8,A0,A0,A0,H⟩) (k':=?_);show Wk _ _ (.cons _ _ (.cons _ _ (.cons _ _ (.cons _ _ (.cons _ _ _))))))|refine w2 (.nilw 1) (r:=rB) (e:=G6 rfl) (k':=?_)|refine R8 ?_|refine w32 HZ (e:=A7r _ _ x.2.1) (k':=?_)|refine w2 (.byt) (r:=rB) (e:=CK _ rfl) (k':=?_)|refine w2 (.cat 1) (r:=rB) (e:=eZ rfl (by first|omega|(rw[E3,jG];omega)|(show 0+_<=_;omega))) (k':=?_)|refine VY ?_|refine CV ?_|refine W3 ?_|(refine w3 ET (e:=A0r _ ⟨A0,A0⟩) (k':=?_);show Wk _ _ (.cons _ _ (.cons _ _ (.cons _ _ (.cons _ _ (.cons _ _ (.cons _ _ (.cons _ _ (.cons _ _ _)))))))))|refine w1 (.bin .or) (e:=B5h (B2Y _) A0) (k':=?_)|refine w2 (.snoc 8) (r:=rI) (e:=S3 (a:=(_,_,_,_,_,_,_,_)) rfl rfl B8 (by first|omega|(rw[E3,jG];omega)|(show 0+_<=_;omega))) (k':=?_)|refine uX ?_|refine w2 (.mk 1) (r:=rB) (e:=I0 [_] rfl B8 rfl) (k':=?_))
   all_goals first
    | refine H6 (d:=0) ?_
      rw[OA f q b p A mp x];refine G2 (fun z=>some (0,z)) ?_;first
      | exact TR (B8o A0)
      | exact TR (B8n A0 A0)
      | exact TR (C2E A0 A0)
      | exact TR (C2D A0 A0 A0)
      | exact TR (C2C A0 A0)
      | (exfalso;omega)
  .cases k
 .cases k
def mdK(s:C8):Prop:=3<=(s.length:Int)/\(Lib.hasPrefix s [27,91,60]=false∨4<=(s.length:Int))/\(Lib.hasPrefix s [27,91,77]=false∨6<=(s.length:Int))/\(s.length:Int)<=100000
instance(s:C8):Decidable (mdK s):=by unfold mdK;infer_instance
def nbT(h:(!z)=true):z=false:=by cases z<;>first|rfl|cases h
def nbF(h:(!z)=false):z=true:=by cases z<;>first|rfl|cases h
def cmX(s:C8)(mp:Option (List Qt)):Option j9:=match (el mp).find? (fun a=>(s == a.1 && true))with
 | some q=>some q.2
 | none=>if Lib.hasPrefix s [27,91]=true/\mdB s=true then some (2,0,mdN s / 4%8,mdV s,mdN s%4,mdR s,mdC s,[])else none
def cmI(s:C8)(mp:Option (List Qt))(l:Option (List j9)):Option (List j9):=match cmX s mp with
 | some x=>some (el l++[x])
 | none=>l
def A7M{s:C8}:∀ {l:List Qt},l.any (fun a=>(s == a.1 && true))=false->l.find? (fun a=>(s == a.1 && true))=none
 | [],_=>rfl
 | a::r,h=>by
   have h:((s == a.1 && true) || r.any (fun a=>(s == a.1 && true)))=false:=h;obtain⟨h1,f⟩:=P1.1 h;rw[J8 (by rw[h1];decide)];exact A7M f
def B4H{s:C8}:∀ {l:List Qt},l.any (fun a=>(s == a.1 && true))=true->∃ q,l.find? (fun a=>(s == a.1 && true))=some q
 | [],h=>by cases h
 | a::r,h=>by
   cases f:(s == a.1 && true)with
   | true=>exact⟨a,N4 f⟩
   | false =>
     have h:((s == a.1 && true) || r.any (fun a=>(s == a.1 && true)))=true:=h;rw[f,R7]at h;obtain⟨q,hr⟩:=B4H h;exact⟨q,by rw[J8 (by rw[f];decide)];exact hr⟩
def C2R{s:C8}(h:(el mp).any (fun a=>(s == a.1 && true))=true):some (el l++[(((el mp).find? (fun a=>(s == a.1 && true))).elim 0 (fun a=>a.2.1),((el mp).find? (fun a=>(s == a.1 && true))).elim 0 (fun a=>a.2.2.1),((el mp).find? (fun a=>(s == a.1 && true))).elim 0 (fun a=>a.2.2.2.1),((el mp).find? (fun a=>(s == a.1 && true))).elim 0 (fun a=>a.2.2.2.2.1),((el mp).find? (fun a=>(s == a.1 && true))).elim 0 (fun a=>a.2.2.2.2.2.1),((el mp).find? (fun a=>(s == a.1 && true))).elim 0 (fun a=>a.2.2.2.2.2.2.1),((el mp).find? (fun a=>(s == a.1 && true))).elim 0 (fun a=>a.2.2.2.2.2.2.2.1),((el mp).find? (fun a=>(s == a.1 && true))).elim [] (fun a=>a.2.2.2.2.2.2.2.2))])=cmI s mp l:=by
 obtain⟨q,f⟩:=B4H h;unfold cmI cmX;rw[f];rfl
def C2Q{s:C8}(h:(el mp).any (fun a=>(s == a.1 && true))=false)(hp:Lib.hasPrefix s [27,91]=true)(f:mdB s=true):some (el l++[(ifI (mdB s) 2,0,ifI (mdB s) (mdN s / 4%8),ifI (mdB s) (mdV s),ifI (mdB s) (mdN s%4),ifI (mdB s) (mdR s),ifI (mdB s) (mdC s),[])])=cmI s mp l:=by
 unfold cmI cmX;rw[A7M h,f,A4 ⟨hp,rfl⟩];rfl
def B9c{s:C8}(h:(el mp).any (fun a=>(s == a.1 && true))=false)(f:Lib.hasPrefix s [27,91]=false∨mdB s=false):l=cmI s mp l:=by
 unfold cmI cmX;rw[A7M h];simp only;rw[A3 (fun hh=>by rcases f with h|h<;>rw[h]at hh<;>simp at hh)]
def A1V{b:Option (List j9)}(h:b=d):[B2 rB none,B2 rI d,B2 rQ mp]=[B2 rB none,B2 rI b,B2 rQ mp]:=by rw[h]
noncomputable def C1C:L5:=⟨_,fun f=>(.cons (qO f) (.cons (B8N f) (.cons (A00 f) .nil)))⟩
def AK:List U->Option (Nat×List U)
 | [.str s,u_p,u_inp,u_mp]=>(J3 rB u_p).bind fun p=>(J3 rI u_inp).bind fun f=>(J3 rQ u_mp).bind fun mp=>if(Lib.hasPrefix s [27,91]=false∨mdK s)/\((el f).length:Int)<=900000 then some (0,[B2 rB none,B2 rI (cmI s mp f),B2 rQ mp])else none
 | _=>none
def OQ(s:C8)(p:D4)(f:(Option (List (Int×Int×Int×Int×Int×Int×Int×C8))))(mp:(Option (List (C8×Int×Int×Int×Int×Int×Int×Int×C8))))(j:(Lib.hasPrefix s [27,91]=false∨mdK s)/\((el f).length:Int)<=900000):AK [.str s,B2 rB p,B2 rI f,B2 rQ mp]=some (0,[B2 rB none,B2 rI (cmI s mp f),B2 rQ mp]):=by
 simp only[AK,F1,C4];exact A4 j
def B9a:Q7:=⟨[(0,.pointer (some ⟨9,0,none⟩)),(1,h 0 9)],[(9,.cells 83 [dat 16 1 11,.map (some 7),own 17 2 18]),(7,.mp 3 19 81),(17,.sq 2 18 23 18),(16,.frz),(18,.frz)],4,[⟨.ret,[(0,.pointer (some ⟨9,0,none⟩))],[(9,.cells 83 [dat 19 0 11,.map (some 7),own 20 1 18]),(7,.mp 2 19 81),(20,.sq 1 18 23 21),(19,.frz),(21,.frz)],3⟩]⟩
noncomputable def B9b:Code:=(f105.body).getD .skip
def B9Z:f105.body=some B9b:=rfl
def BI(a0:Nat)(f:Nat)(a2:Nat):Tr:=.dt 11 (.nilw 1) []<|.ret [jI 0,h a2 11,h f 18,h a0 19]
def A65(n:Nat):Tr:=.br 12 (LZ 2 4 6 n) (BI 3 2 n)
def B33:Tr:=.lt 3 (.mget 9 1 1) [h 3 19,jI 0,h 0 9]<|.lt 3 (.mget 9 1 2) [h 3 19,jI 0,h 0 9]<|.lt 3 (.mget 9 1 3) [h 3 19,jI 0,h 0 9]<|.lt 3 (.mget 9 1 4) [h 3 19,jI 0,h 0 9]<|.lt 3 (.mget 9 1 5) [h 3 19,jI 0,h 0 9]<|.lt 3 (.mget 9 1 6) [h 3 19,jI 0,h 0 9]<|.lt 3 (.mget 9 1 7) [h 3 19,jI 0,h 0 9]<|.lt 9 (.mget 9 1 8) [h 3 19,.string ⟨⟨[]⟩⟩,h 0 9]<|.lt 8 (.mhas 9 1) [h 3 19,h 0 9]<|J5 12 13 (.fn iZ [h 0 9,.string ⟨⟨[27,91]⟩⟩] 1<|.br 14 (.fn TF [h 0 9] 9<|.br 23 (LZ 2 15 17 24) (BI 3 2 24)) (A65 15)) (A65 14)
def B34{G}(v:I6 G):LI prog G gl 105 (SP prog f105 gl n0 22 B9a AK):=by
 refine NK (dep:=60) (f:=105) (n0:=n0) (nB:=22) (H0:=H0) B33 (cxg (C1C.2 v) (kK v)) v func105 B9Z C3 C3 C3 ?_;intro us d outs k;have A:=k;unfold AK at k;split at k
 .skip;rename_i s D h C;have x:=A5.1 k;clear k;obtain⟨p,o,k⟩:=x;replace o:=F2 o;subst o;have t:=A5.1 k;clear k;obtain⟨y,j,k⟩:=t;replace j:=F2 j;subst j;have w:=A5.1 k;clear k;obtain⟨mp,n,k⟩:=w;replace n:=F2 n;subst n;split at k
  .rename_i B;clear k A;refine⟨rfl,?_⟩;unfold B33;refine w0 (.cons 3 _ (.cons 2 _ (.cons 1 _ (.cons 0 _ (.nil))))) ?_;repeat (first|refine w4 (fun g=>?_) fun g=>?_|refine w4B (fun g=>?_) fun g=>?_|refine w2 (.nilw 1) (r:=rB) (e:=G6 rfl) (k':=?_)|(refine w7 [.int .i64 _,B2 rB _,B2 rI _,B2 rQ _] ?_;rotate_left)|refine w2 (.snoc 8) (r:=rI) (e:=S3 (a:=(_,_,_,_,_,_,_,_)) rfl rfl B8 A0) (k':=?_)|refine Y3 ?_|refine iD ?_|refine w1x (.mget 9 1 1) (e:=dJ (U.int .i64) (fun a=>(_ == a.1 && true)) (fun a=>a.2.1) rfl rfl (fun _=>rfl) (fun _=>rfl)) (k':=?_)|refine w1x (.mget 9 1 2) (e:=dJ (U.int .i64) (fun a=>(_ == a.1 && true)) (fun a=>a.2.2.1) rfl rfl (fun _=>rfl) (fun _=>rfl)) (k':=?_)|refine w1x (.mget 9 1 3) (e:=dJ (U.int .i64) (fun a=>(_ == a.1 && true)) (fun a=>a.2.2.2.1) rfl rfl (fun _=>rfl) (fun _=>rfl)) (k':=?_)|refine w1x (.mget 9 1 4) (e:=dJ (U.int .i64) (fun a=>(_ == a.1 && true)) (fun a=>a.2.2.2.2.1) rfl rfl (fun _=>rfl) (fun _=>rfl)) (k':=?_)|refine w1x (.mget 9 1 5) (e:=dJ (U.int .i64) (fun a=>(_ == a.1 && true)) (fun a=>a.2.2.2.2.2.1) rfl rfl (fun _=>rfl) (fun _=>rfl)) (k':=?_)|refine w1x (.mget 9 1 6) (e:=dJ (U.int .i64) (fun a=>(_ == a.1 && true)) (fun a=>a.2.2.2.2.2.2.1) rfl rfl (fun _=>rfl) (fun _=>rfl)) (k':=?_)|refine w1x (.mget 9 1 7) (e:=dJ (U.int .i64) (fun a=>(_ == a.1 && true)) (fun a=>a.2.2.2.2.2.2.2.1) rfl rfl (fun _=>rfl) (fun _=>rfl)) (k':=?_)|refine w1x (.mget 9 1 8) (e:=dJ U.str (fun a=>(_ == a.1 && true)) (fun a=>a.2.2.2.2.2.2.2.2) rfl rfl (fun _=>rfl) (fun _=>rfl)) (k':=?_)|refine w1x (.mhas 9 1) (e:=UB (fun a=>(_ == a.1 && true)) rfl rfl (fun _=>rfl)) (k':=?_)|refine w31 iZ (e:=CF _ _) (k':=?_)|(refine w3 TF (e:=A83 _ (B.1.resolve_left (by rw[show Lib.hasPrefix s [27,91]=true from(by first|assumption|exact nbT ‹_›|exact nbF ‹_›)];decide))) (k':=?_);show Wk _ _ (.cons _ _ (.cons _ _ (.cons _ _ (.cons _ _ (.cons _ _ (.cons _ _ (.cons _ _ (.cons _ _ (.cons _ _ _)))))))))))
   all_goals first
    | refine H6 (d:=0) ?_
      rw[OQ s p y mp B];refine G2 (fun z=>some (0,z)) ?_;first
      | exact A1V (C2R (by first|assumption|exact nbT ‹_›|exact nbF ‹_›))
      | exact A1V (C2Q (by first|assumption|exact nbT ‹_›|exact nbF ‹_›) (by first|assumption|exact nbT ‹_›|exact nbF ‹_›) (by first|assumption|exact nbT ‹_›|exact nbF ‹_›))
      | exact A1V (B9c (by first|assumption|exact nbT ‹_›|exact nbF ‹_›) (.inl (by first|assumption|exact nbT ‹_›|exact nbF ‹_›)))
      | exact A1V (B9c (by first|assumption|exact nbT ‹_›|exact nbF ‹_›) (.inr (by first|assumption|exact nbT ‹_›|exact nbF ‹_›)))
      | exact absurd (show(el mp).any (fun a=>(s == a.1 && true))=true from(by first|assumption|exact nbT ‹_›|exact nbF ‹_›)) (by rw[show(el mp).any (fun a=>(s == a.1 && true))=false from(by first|assumption|exact nbT ‹_›|exact nbF ‹_›)];decide)
  .cases k
 .cases k
def peL:D4:=some [27,91,50,48,49,126]
def psT(a:D4):D4:=P8 a (6:Int).toNat ((el a).length:Int).toNat
def psP(a:D4):D4:=if sfX (psT a) peL=true then none else if 1006<((el (psT a)).length:Int)then S0 (some (el (P8 a (0:Int).toNat (1006:Int).toNat)++[0])) (P8 a (1008:Int).toNat ((el a).length:Int).toNat)else a
def psI(a:D4)(l:Option (List j9)):Option (List j9):=if sfX (psT a) peL=true then some (el l++[(3,0,0,0,0,0,0,rmE (iB (el (P8 (sfP (psT a) peL) (0:Int).toNat (min ((el (sfP (psT a) peL)).length:Int) 1000).toNat))))])else l
def pA{α:Type}{x:Option (List α)}{i j:Nat}:((el (P8 x i j)).length:Int)<=(el x).length:=by rw[M1,G3,F6];omega
def A70{p:D4}:((el (sfP p u)).length:Int)<=(el p).length:=by
 unfold sfP;split
 .exact pA
 .exact Int.le_refl _
def B4l{p:D4}(h:∀ x ∈ el p,0<=x/\x<256):∀ x ∈ el (sfP p u),0<=x/\x<256:=by
 unfold sfP;split
 .exact kX h
 .exact h
def B7Z{b:Option (List j9)}(h1:a=c)(f:b=d):[B2 rB c,B2 rI d,B2 rQ mp]=[B2 rB a,B2 rI b,B2 rQ mp]:=by rw[h1,f]
def C1u(h:sfX (psT a) peL=true):none=psP a/\some (el l++[(3,0,0,0,0,0,0,rmE (iB (el (P8 (sfP (psT a) peL) (0:Int).toNat (min ((el (sfP (psT a) peL)).length:Int) 1000).toNat))))])=psI a l:=by unfold psP psI;rw[A4 h,A4 h];exact⟨rfl,rfl⟩
def C1w(h:sfX (psT a) peL=false)(f:1006<((el (psT a)).length:Int)):S0 (some (el (P8 a (0:Int).toNat (1006:Int).toNat)++[0])) (P8 a (1008:Int).toNat ((el a).length:Int).toNat)=psP a/\l=psI a l:=by unfold psP psI;rw[A3 (by rw[h];decide),A4 f,A3 (by rw[h];decide)];exact⟨rfl,rfl⟩
def C1v(h:sfX (psT a) peL=false)(f:¬1006<((el (psT a)).length:Int)):a=psP a/\l=psI a l:=by unfold psP psI;rw[A3 (by rw[h];decide),A3 f,A3 (by rw[h];decide)];exact⟨rfl,rfl⟩
def B7j:∀ x ∈ el peL,0<=x/\x<256:=B8
def zU{b:Option (List j9)}(h:a=c/\b=d):[B2 rB c,B2 rI d,B2 rQ mp]=[B2 rB a,B2 rI b,B2 rQ mp]:=B7Z h.1 h.2
noncomputable def C0m:L5:=⟨_,fun f=>(.cons (qO f) (.cons (B9U f) (.cons (B64 f) .nil)))⟩
def JE:List U->Option (Nat×List U)
 | [u_a,u_p,u_inp,u_mp]=>(J3 rB u_a).bind fun a=>(J3 rB u_p).bind fun p=>(J3 rI u_inp).bind fun f=>(J3 rQ u_mp).bind fun mp=>if 6<=((el a).length:Int)/\((el a).length:Int)<=100000/\(∀ x ∈ el a,0<=x/\x<256)/\((el f).length:Int)<=900000 then some (0,[B2 rB (psP a),B2 rI (psI a f),B2 rQ mp])else none
 | _=>none
def A0T(a:D4)(p:D4)(f:(Option (List (Int×Int×Int×Int×Int×Int×Int×C8))))(mp:(Option (List (C8×Int×Int×Int×Int×Int×Int×Int×C8))))(j:6<=((el a).length:Int)/\((el a).length:Int)<=100000/\(∀ x ∈ el a,0<=x/\x<256)/\((el f).length:Int)<=900000):JE [B2 rB a,B2 rB p,B2 rI f,B2 rQ mp]=some (0,[B2 rB (psP a),B2 rI (psI a f),B2 rQ mp]):=by
 simp only[JE,F1,C4];exact A4 j
def B7c:Q7:=⟨[(0,.pointer (some ⟨9,0,none⟩)),(1,dat 16 0 11)],[(9,.cells 83 [dat 17 1 11,.map (some 7),own 18 2 18]),(7,.mp 3 19 81),(18,.sq 2 18 23 19),(16,.frz),(17,.frz),(19,.frz)],4,[⟨.ret,[(0,.pointer (some ⟨9,0,none⟩))],[(9,.cells 83 [dat 20 0 11,.map (some 7),own 21 1 18]),(7,.mp 2 19 81),(21,.sq 1 18 23 22),(20,.frz),(22,.frz)],3⟩]⟩
noncomputable def B7d:Code:=(f129.body).getD .skip
def B7b:f129.body=some B7d:=rfl
def B2Q:Tr:=aD [h 0 11]<|.dt 11 (.subs 1) [h 0 11,jI 6,h3 4]<|.dt 11 (.mk 1) [.int .u8 (27),.int .u8 (91),.int .u8 (50),.int .u8 (48),.int .u8 (49),.int .u8 (126)]<|.fn KL [h 5 11,h 6 11] 2<|.br 8 (aD [h 7 11]<|.lt 3 (.min) [h3 9,jI 1000]<|.dt 11 (.subs 1) [h 7 11,jI 0,h3 10]<|.lt 9 (.str) [h 11 11]<|.fn RB [h 12 9,.string ⟨⟨[27]⟩⟩,.string ⟨⟨[]⟩⟩] 1<|.dt 18 (.snoc 8) [h 2 18,jI 3,jI 0,jI 0,jI 0,jI 0,jI 0,jI 0,h 13 9]<|BI 3 14 15) (aU 5 9 1006 (.dt 11 (.subs 1) [h 0 11,jI 0,jI 1006]<|.dt 11 (.snoc 1) [h 11 11,.int .u8 (0)]<|.dt 11 (.subs 1) [h 0 11,jI 1008,h3 4]<|.dt 11 (.cat 1) [h 12 11,h 13 11]<|n8 2 14) (n8 2 0))
def B7a{G}(v:I6 G):LI prog G gl 129 (SP prog f129 gl n0 23 B7c JE):=by
 refine NK (dep:=60) (f:=129) (n0:=n0) (nB:=23) (H0:=H0) B2Q (cxg (C0m.2 v) (kK v)) v func129 B7b C3 C3 C3 ?_;intro us d outs k;have C:=k;unfold JE at k;split at k
 .skip;rename_i F E B D;have x:=A5.1 k;clear k;obtain⟨a,o,k⟩:=x;replace o:=F2 o;subst o;have y:=A5.1 k;clear k;obtain⟨p,s,k⟩:=y;replace s:=F2 s;subst s;have t:=A5.1 k;clear k;obtain⟨h,j,k⟩:=t;replace j:=F2 j;subst j;have w:=A5.1 k;clear k;obtain⟨mp,n,k⟩:=w;replace n:=F2 n;subst n;split at k
  .rename_i A;clear k C;have H:((el (P8 a (6:Int).toNat ((el a).length:Int).toNat)).length:Int)=(el (psT a)).length:=rfl;have I:((el (psT a)).length:Int)=(el a).length-6:=by unfold psT;rw[M1,G3,F6];omega
   have z2:((el (sfP (psT a) peL)).length:Int)<=(el (psT a)).length:=A70;have z3:((el (P8 (sfP (psT a) peL) (0:Int).toNat (min ((el (sfP (psT a) peL)).length:Int) 1000).toNat)).length:Int)<=(el (sfP (psT a) peL)).length:=pA;have z4:((el (P8 a (0:Int).toNat (1006:Int).toNat)).length:Int)<=(el a).length:=pA;have z5:((el (P8 a (1008:Int).toNat ((el a).length:Int).toNat)).length:Int)<=(el a).length:=pA;refine⟨rfl,?_⟩;unfold B2Q;refine w0 (.cons 3 _ (.cons 2 _ (.cons 1 _ (.cons 0 _ (.nil))))) ?_;repeat (first|refine w2 (.subs 1) (r:=rB) (e:=Z0 rfl A0 A0 A0) (k':=?_)|refine P7 ?_|refine w4 (fun g=>?_) fun g=>?_|refine w4B (fun g=>?_) fun g=>?_|(refine w7 [.int .i64 _,B2 rB _,B2 rI _,B2 rQ _] ?_;rotate_left)|refine w2 (.mk 1) (r:=rB) (e:=I0 [_,_,_,_,_,_] rfl B8 rfl) (k':=?_)|refine w32 KL (e:=A9l (psT a) peL ⟨A0,B8,kX A.2.2.1,B7j⟩) (k':=?_)|refine A1l ?_|refine w1 (.str) (e:=u9 rfl (by exact kX (B4l (kX A.2.2.1)))) (k':=?_)|refine w31 RB (e:=A8D _ _ _ ⟨by rw[x5];omega,rfl,rfl⟩) (k':=?_)|refine w2 (.snoc 8) (r:=rI) (e:=S3 (a:=(_,_,_,_,_,_,_,_)) rfl rfl B8 (by first|omega|(rw[E3,B1,G1];omega))) (k':=?_)|refine w2 (.nilw 1) (r:=rB) (e:=G6 rfl) (k':=?_)|refine cB ?_|refine w2 (.snoc 1) (r:=rB) (e:=S3 rfl rfl B8 (by first|omega|(rw[E3,B1,G1];omega))) (k':=?_)|refine w2 (.cat 1) (r:=rB) (e:=eZ rfl (by first|omega|(rw[E3,B1,G1];omega))) (k':=?_))
   all_goals first
    | refine H6 (d:=0) ?_
      rw[A0T a p h mp A];refine G2 (fun z=>some (0,z)) ?_;first
      | exact zU (C1u ‹_›)
      | exact zU (C1w ‹_› ‹_›)
      | exact zU (C1v ‹_› ‹_›)
  .cases k
 .cases k
def sqH(s:C8):Nat:=if(s.length:Int)>24 then 4 else 1
def sqG(s:C8)(b:Int):Nat:=if b>=32 then(if b<=63 then sqH s else 3)else 3
def sqF(s:C8)(b:Int):Nat:=if Lib.hasPrefix s [27,91,77]=true then 2 else if b>=64 then(if b<=126 then 2 else sqG s b)else sqG s b
def sqE(s:C8)(b:Int):Nat:=if s=[27,91,50,48,48,126]then 1 else sqF s b
def sqD(s:C8)(b:Int):Nat:=if Lib.hasPrefix s [27,91,77]=true then(if(s.length:Int)<6 then 1 else sqE s b)else sqE s b
def sqC(s:C8)(b:Int):Nat:=if Lib.hasPrefix s [27,91,50,48,48,126]=true then(if s≠[27,91,50,48,48,126]then 0 else sqD s b)else sqD s b
def sqP(a:D4)(b:Int):D4:=match sqC (iB (el a)) b with
 | 0=>psP a
 | 1=>a
 | 2=>none
 | 3=>fsP [] none b
 | _=>none
def sqI(a:D4)(b:Int)(mp:Option (List Qt))(l:Option (List j9)):Option (List j9):=match sqC (iB (el a)) b with
 | 0=>psI a l
 | 1=>l
 | 2=>cmI (iB (el a)) mp l
 | 3=>fsI [] none b l
 | _=>l
def C1e(h:sqC (iB (el a)) b=0):psP a=sqP a b/\psI a l=sqI a b mp l:=by unfold sqP sqI;rw[h];exact⟨rfl,rfl⟩
def C1d(h:sqC (iB (el a)) b=1):a=sqP a b/\l=sqI a b mp l:=by unfold sqP sqI;rw[h];exact⟨rfl,rfl⟩
def C1c(h:sqC (iB (el a)) b=2):none=sqP a b/\cmI (iB (el a)) mp l=sqI a b mp l:=by unfold sqP sqI;rw[h];exact⟨rfl,rfl⟩
def C1b(h:sqC (iB (el a)) b=3):fsP [] none b=sqP a b/\fsI [] none b l=sqI a b mp l:=by unfold sqP sqI;rw[h];exact⟨rfl,rfl⟩
def C1a(h:sqC (iB (el a)) b=4):none=sqP a b/\l=sqI a b mp l:=by unfold sqP sqI;rw[h];exact⟨rfl,rfl⟩
def ntf(h:z=false):¬z=true:=by rw[h];decide
def dq1{s:C8}(h:¬s≠[27,91,50,48,48,126])(f:Lib.hasPrefix s [27,91,77]=true):False:=by rw[K2.1 h]at f;exact absurd f B8
def dq2{s:C8}(h:¬s≠[27,91,50,48,48,126])(f:¬s=[27,91,50,48,48,126]):False:=h f
def dq3{s:C8}(h:Lib.hasPrefix s [27,91,50,48,48,126]=false)(f:s=[27,91,50,48,48,126]):False:=by rw[f]at h;exact absurd h B8
def dq4(h:z=true)(f:z=false):False:=by rw[h]at f;cases f
def NZ:∀ {u s:C8},Lib.hasPrefix s u=true->u.length<=s.length
 | [],_,_=>W1 _
 | _::_,[],h=>by cases h
 | a::u,b::s,h=>by
   have h:((a == b) && Lib.hasPrefix s u)=true:=h
   have:=NZ (P6 h).2;simp only[B6];omega
noncomputable def B95:L5:=⟨_,fun f=>(.cons (qO f) (.cons (A00 f) (.consM (B3Q f) (.consM (B34 f) (.consM (B7a f) .nil)))))⟩
def IG:List U->Option (Nat×List U)
 | [u_a,.int .u8 b,u_p,u_inp,u_mp]=>(J3 rB u_a).bind fun a=>(J3 rB u_p).bind fun p=>(J3 rI u_inp).bind fun f=>(J3 rQ u_mp).bind fun mp=>if 3<=((el a).length:Int)/\((el a).length:Int)<=100000/\(∀ x ∈ el a,0<=x/\x<256)/\(0<=b/\b<256)/\(Lib.hasPrefix (iB (el a)) [27,91,60]=false∨4<=((el a).length:Int)∨b=60)/\((el f).length:Int)<=900000 then some (0,[B2 rB (sqP a b),B2 rI (sqI a b mp f),B2 rQ mp])else none
 | _=>none
def ZO(a:D4)(b:Int)(p:D4)(f:(Option (List (Int×Int×Int×Int×Int×Int×Int×C8))))(mp:(Option (List (C8×Int×Int×Int×Int×Int×Int×Int×C8))))(j:3<=((el a).length:Int)/\((el a).length:Int)<=100000/\(∀ x ∈ el a,0<=x/\x<256)/\(0<=b/\b<256)/\(Lib.hasPrefix (iB (el a)) [27,91,60]=false∨4<=((el a).length:Int)∨b=60)/\((el f).length:Int)<=900000):IG [B2 rB a,.int .u8 b,B2 rB p,B2 rI f,B2 rQ mp]=some (0,[B2 rB (sqP a b),B2 rI (sqI a b mp f),B2 rQ mp]):=by
 simp only[IG,F1,C4];exact A4 j
def B6b:Q7:=⟨[(0,.pointer (some ⟨9,0,none⟩)),(1,dat 33 0 11),(2,h 1 4)],[(9,.cells 83 [dat 34 2 11,.map (some 7),own 35 3 18]),(7,.mp 4 19 81),(35,.sq 3 18 23 36),(33,.frz),(34,.frz),(36,.frz)],5,[⟨.ret,[(0,.pointer (some ⟨9,0,none⟩))],[(9,.cells 83 [dat 37 0 11,.map (some 7),own 38 1 18]),(7,.mp 2 19 81),(38,.sq 1 18 23 39),(37,.frz),(39,.frz)],3⟩]⟩
noncomputable def B6c:Code:=(f107.body).getD .skip
def B6a:f107.body=some B6c:=rfl
def A3V(n:Nat):Tr:=.fn AK [h 5 9,h 2 11,h 3 18,h 4 19] 3<|n8 (n+1) n
def A3U(n:Nat):Tr:=.dt 11 (.nilw 1) []<|.fn tE [.string ⟨⟨[]⟩⟩,h n 11,h 1 4,h 2 11,h 3 18,h 4 19] 3<|n8 (n+2) (n+1)
def A3T(n:Nat):Tr:=.lt 3 (.conv .i64) [h 1 4]<|J6 n (n+1) 32 (aQ [h3 n,jI 63]<|J5 (n+2) (n+3) (A3U (n+4)) (jW 5 (n+4) 24 (BI 4 3 (n+6)) (n8 3 0))) (A3U (n+2))
def B0m:Tr:=.lt 9 (.str) [h 0 11]<|.fn iZ [h 5 9,.string ⟨⟨[27,91,50,48,48,126]⟩⟩] 1<|.br 6 (aN [h 5 9,.string ⟨⟨[27,91,50,48,48,126]⟩⟩]<|.br 7 (.fn JE [h 0 11,h 2 11,h 3 18,h 4 19] 3<|n8 9 8) (.fn iZ [h 5 9,.string ⟨⟨[27,91,77]⟩⟩] 1<|.br 8 (.no) (aE [h 5 9,.string ⟨⟨[27,91,50,48,48,126]⟩⟩]<|S7 9 (n8 3 0)))) (.fn iZ [h 5 9,.string ⟨⟨[27,91,77]⟩⟩] 1<|.br 7 (aD [h 5 9]<|M9 8 9 6 (n8 3 0) (aE [h 5 9,.string ⟨⟨[27,91,50,48,48,126]⟩⟩]<|.br 10 (.no) (.fn iZ [h 5 9,.string ⟨⟨[27,91,77]⟩⟩] 1<|S7 11 (A3V 12)))) (aE [h 5 9,.string ⟨⟨[27,91,50,48,48,126]⟩⟩]<|.br 8 (.no) (.fn iZ [h 5 9,.string ⟨⟨[27,91,77]⟩⟩] 1<|.br 9 (.no) (.lt 3 (.conv .i64) [h 1 4]<|J6 10 11 64 (X0 10 12 126 (A3V 13) (A3T 13)) (A3T 12)))))
def B6Z{G}(y:I6 G):LI prog G gl 107 (SP prog f107 gl n0 40 B6b IG):=by
 refine NK (dep:=60) (f:=107) (n0:=n0) (nB:=40) (H0:=H0) B0m (cxg (B95.2 y) (kK y)) y func107 B6a C3 C3 C3 ?_;intro us d outs k;have F:=k;unfold IG at k;split at k
 .skip;rename_i J b I E H;have B:=A5.1 k;clear k;obtain⟨a,o,k⟩:=B;replace o:=F2 o;subst o;have C:=A5.1 k;clear k;obtain⟨p,t,k⟩:=C;replace t:=F2 t;subst t;have w:=A5.1 k;clear k;obtain⟨v,j,k⟩:=w;replace j:=F2 j;subst j;have A:=A5.1 k;clear k;obtain⟨mp,n,k⟩:=A;replace n:=F2 n;subst n;split at k
  .rename_i D;clear k F;have L:((iB (el a)).length:Int)=((el a).length:Int):=by rw[x5]
   refine⟨rfl,?_⟩;unfold B0m;refine w0 (.cons 4 _ (.cons 3 _ (.cons 2 _ (.cons 1 _ (.cons 0 _ (.nil)))))) ?_;repeat (first|refine w4 (fun g=>?_) fun g=>?_|refine w4B (fun g=>?_) fun g=>?_|(refine w7 [.int .i64 _,B2 rB _,B2 rI _,B2 rQ _] ?_;rotate_left)|(refine w8 ?_;(first|exact dq1 ‹_› ‹_›|exact dq2 ‹_› ‹_›|exact dq3 ‹_› ‹_›|exact dq4 ‹_› ‹_›))|refine m5 ?_|refine X1 ?_|refine w2 (.nilw 1) (r:=rB) (e:=G6 rfl) (k':=?_)|refine w31 iZ (e:=CF _ _) (k':=?_)|(refine w3 tE (e:=OA [] none b p v mp ⟨.inl rfl,⟨B8,.inl rfl,A0,A0,fun x K=>by cases K⟩,A0⟩) (k':=?_);show Wk _ _ (.cons _ _ (.cons _ _ (.cons _ _ _))))|refine AR ?_|refine uX ?_|refine bK ?_|refine iE ?_|(refine w3 AK (e:=OQ _ p v mp ⟨.inr ⟨A0,D.2.2.2.2.1.imp id fun h=>by omega,(by first|exact .inl ‹_›|exact .inr A0),A0⟩,A0⟩) (k':=?_);show Wk _ _ (.cons _ _ (.cons _ _ (.cons _ _ _))))|refine Y3 ?_|refine cB ?_|refine w1 (.str) (e:=u9 rfl (by exact D.2.2.1)) (k':=?_)|refine A26 ?_|(refine w3 JE (e:=A0T a p v mp ⟨by have:=NZ (u:=[27,91,50,48,48,126]) (s:=iB (el a)) ‹_›;simp only[B6,E0]at this;omega,A0,D.2.2.1,A0⟩) (k':=?_);show Wk _ _ (.cons _ _ (.cons _ _ (.cons _ _ _))))|refine W3 ?_)
   all_goals first
    | refine H6 (d:=0) ?_
      rw[ZO a b p v mp D];refine G2 (fun z=>some (0,z)) ?_;first
      | exact zU (C1e (by unfold sqC sqD sqE sqF sqG sqH;repeat (first|rw[A4 ‹_›]|rw[A3 (ntf ‹_›)]|rw[A3 ‹_›]|rw[A4 A0]|rw[A3 A0])))
      | exact zU (C1d (by unfold sqC sqD sqE sqF sqG sqH;repeat (first|rw[A4 ‹_›]|rw[A3 (ntf ‹_›)]|rw[A3 ‹_›]|rw[A4 A0]|rw[A3 A0])))
      | exact zU (C1c (by unfold sqC sqD sqE sqF sqG sqH;repeat (first|rw[A4 ‹_›]|rw[A3 (ntf ‹_›)]|rw[A3 ‹_›]|rw[A4 A0]|rw[A3 A0])))
      | exact zU (C1b (by unfold sqC sqD sqE sqF sqG sqH;repeat (first|rw[A4 ‹_›]|rw[A3 (ntf ‹_›)]|rw[A3 ‹_›]|rw[A4 A0]|rw[A3 A0])))
      | exact zU (C1a (by unfold sqC sqD sqE sqF sqG sqH;repeat (first|rw[A4 ‹_›]|rw[A3 (ntf ‹_›)]|rw[A3 ‹_›]|rw[A4 A0]|rw[A3 A0])))
  .cases k
 .cases k
abbrev Xt:=j9
def By(l:List Int):Prop:=∀ x ∈ l,0<=x/\x<256
def Iv(p:D4):Prop:=((el p).length:Int)<=1012/\(∀ x ∈ el p,0<=x/\x<256)/\(el p=[]∨knd (el p)=1∨((el p).getD 0 0=27/\(((el p).length:Int)=1∨(2<=((el p).length:Int)/\((el p).getD 1 0<128∨knd ((el p).drop 1)=1)))))
instance(p:D4):Decidable (Iv p):=by unfold Iv;infer_instance
def stP(p:D4)(b:Int):D4 :=
 if((el p).length:Int)=0 then fsP [] p b
 else if(el p).getD 0 0>=128 then fsP [] p b
 else if iB (el p)≠[27]then
  if(el p).getD 1 0>=128 then fsP [27] (P8 p 1 (el p).length) b
  else if Lib.hasPrefix (iB (el p)) [27,79]=true then(if b>=64 then(if b<=126 then none else fsP [] none b)else fsP [] none b)
  else sqP (some (el p++[b])) b
 else if b=27 then p else if b=91 then some (el p++[b])else if b=79 then some (el p++[b])else fsP [27] none b
def stI(p:D4)(b:Int)(mp:Option (List Qt))(l:Option (List Xt)):Option (List Xt) :=
 if((el p).length:Int)=0 then fsI [] p b l
 else if(el p).getD 0 0>=128 then fsI [] p b l
 else if iB (el p)≠[27]then
  if(el p).getD 1 0>=128 then fsI [27] (P8 p 1 (el p).length) b l
  else if Lib.hasPrefix (iB (el p)) [27,79]=true then(if b>=64 then(if b<=126 then cmI (iB (el p++[b])) mp l else fsI [] none b l)else fsI [] none b l)
  else sqI (some (el p++[b])) b mp l
 else if b=27 then some (el l++[(1,1114138,0,0,0,0,0,[])])else if b=91 then l else if b=79 then l else fsI [27] none b l
def rnP:List Int->D4->D4
 | [],p=>p
 | b::r,p=>rnP r (stP p b)
def rnI:List Int->D4->Option (List Qt)->Option (List Xt)->Option (List Xt)
 | [],_,_,l=>l
 | b::r,p,mp,l=>rnI r (stP p b) mp (stI p b mp l)
def B69{l:List Int}{p:D4}(h:¬i<(l.length:Int)):rnP (l.drop i.toNat) p=p:=by rw[d9 l A0];rfl
def B7A{l:List Int}{p:D4}{x:Option (List Xt)}(h:¬i<(l.length:Int)):rnI (l.drop i.toNat) p mp x=x:=by rw[d9 l A0];rfl
def B68{l:List Int}(p:D4)(h0:0<=i)(h1:i<(l.length:Int)):rnP (l.drop i.toNat) p=rnP (l.drop (i+1).toNat) (stP p (l.getD i.toNat default)):=by rw[Q1 l h0 h1];rfl
def B6_{l:List Int}(p:D4)(mp:Option (List Qt))(x:Option (List Xt))(h0:0<=i)(h1:i<(l.length:Int)):rnI (l.drop i.toNat) p mp x=rnI (l.drop (i+1).toNat) (stP p (l.getD i.toNat default)) mp (stI p (l.getD i.toNat default) mp x):=by rw[Q1 l h0 h1];rfl
def gX{l:List Int}(f:l≠[])(h:knd l=1):128<=l.getD 0 0:=by
 have k:1<=l.length:=O1.2 f;unfold knd at h;split at h
 .omega
 .split at h
  .split at h
   .rename_i n;have j:1<U6 (l.getD 0 0):=A0;unfold U6 at j;(repeat' split at j)<;>omega
   .omega
  .omega
def nT{l:List Int}(h:By l)(h0:0<=b)(h1:b<256):By (l++[b]):=fun x f=>by
 rcases B5.1 f with f|f
 .exact h x f
 .have:x=b:=by simpa using f
  omega
def A7E(h0:0<=b)(h1:b<256):By [b]:=fun x f=>by
 have:x=b:=by simpa using f
 omega
def aZ:Iv none:=⟨B8,fun x f=>(by cases f),.inl rfl⟩
def B2_:Iv (some [27]):=⟨B8,A7E B8 B8,.inr (.inr ⟨rfl,.inl rfl⟩)⟩
def B8W{x:List Int}(h:knd x=1)(f:By x):Iv (some x):=⟨by have:=iV h;show(x.length:Int)<=_;omega,f,.inr (.inl h)⟩
def B5W{x:List Int}(k:x≠[])(h:knd x=1)(j:By x):Iv (some (27::x)):=by
 have h3:=iV h;have n:1<=x.length:=O1.2 k;refine⟨?_,?_,.inr (.inr ⟨rfl,.inr ⟨?_,.inr h⟩⟩)⟩
 .show((27::x).length:Int)<=_;simp only[B6];omega
 .intro y f;rcases B7.1 f with rfl|f
  .omega
  .exact j y f
 .show 2<=((27::x).length:Int);simp only[B6];omega
def A2t{l:List Int}(f:By l)(h0:0<=b)(h1:b<256):utR l b=none∨∃ x,utR l b=some x/\knd x=1/\By x/\x≠[]:=by
 unfold utR;split
 .exact .inl rfl
 .split
  .rename_i h;exact .inr ⟨_,rfl,h,nT f h0 h1,by simp⟩
  .split
   .exact .inl rfl
   .unfold VT;split
    .rename_i h;exact .inr ⟨_,rfl,h,A7E h0 h1,by simp⟩
    .exact .inl rfl
def A7C:∀ (l:List Int) (p:D4),cP l p=p∨cP l p=none∨cP l p=some [27]
 | [],p=>.inl rfl
 | c::r,p=>by
   unfold cP;split
   .split
    .rcases A7C r (some [27])with h|h|h
     .exact .inr (.inr h)
     .exact .inr (.inl h)
     .exact .inr (.inr h)
    .rcases A7C r none with h|h|h
     .exact .inr (.inl h)
     .exact .inr (.inl h)
     .exact .inr (.inr h)
   .exact A7C r p
def JS{f:C8}(t:f=[]∨f=[27])(s:By (el q))(h0:0<=b)(h1:b<256):Iv (fsP f q b):=by
 unfold fsP;split
 .exact B2_
 .split
  .exact aZ
  .have hu:=A2t (l:=el q) s h0 h1;split
   .rcases hu with h|⟨x,h,k,n,j⟩
    .rw[h];exact aZ
    .rw[h];exact B8W k n
   .have o:Iv (fs1 f (utR (el q) b)):=by
     unfold fs1;split
     .rcases hu with h|⟨x,h,k,n,j⟩
      .rename_i p;rw[h]at p;exact absurd p B8
      .rw[h];rcases t with rfl|rfl
       .show Iv (S0 (some []) (some x));cases x with
        | nil=>exact absurd rfl j
        | cons a r=>exact B8W k n
       .show Iv (S0 (some [27]) (some x));cases x with
        | nil=>exact absurd rfl j
        | cons a r=>exact B5W j k n
     .exact aZ
    rcases A7C (el (utC (el q) b)) (fs1 f (utR (el q) b))with h|h|h
    .rw[h];exact o
    .rw[h];exact aZ
    .rw[h];exact B2_
def EW{l:List Int}(o:(l.length:Int)<=1012)(k:By l)(n:2<=(l.length:Int))(j:l.getD 0 0=27)(f:l.getD 1 0<128):Iv (some l):=⟨o,k,.inr (.inr ⟨j,.inr ⟨n,.inl f⟩⟩)⟩
def lW{l:List Int}{i:Nat}(h:i<l.length):(l++r).getD i 0=l.getD i 0:=by
 simp[B4,F8 h]
def B8V{l:List Int}(G:(l.length:Int)<=1012)(D:By l)(F:6<=(l.length:Int)+1)(t:l.getD 0 0=27)(o:l.getD 1 0<128)(h0:0<=b)(h1:b<256):Iv (psP (some (l++[b]))):=by
 have n:=nT D h0 h1;have v:(l++[b]).getD 0 0=27:=by rw[lW A0];exact t
 have h:(l++[b]).getD 1 0<128:=by rw[lW A0];exact o
 have hlen:((l++[b]).length:Int)=l.length+1:=by simp
 have A:((el (psT (some (l++[b])))).length:Int)=(l.length:Int)+1-6:=by
  unfold psT;rw[M1,G3,F6];simp only[E3];omega
 unfold psP;split
 .exact aZ
 .split
  .rename_i h3;rw[A]at h3;have B:l.length=1012:=A0;have ex:∃ s,P8 (some (l++[b])) (1008:Int).toNat ((el (some (l++[b]))).length:Int).toNat=s:=⟨_,rfl⟩;obtain⟨s,w⟩:=ex;have p:el s=((l++[b]).drop 1008):=by
    rw[<- w,M1];show(((l++[b]).drop 1008).take _)=_;exact L7 (by simp only[F6,E3];omega)
   rw[w];have C:el (P8 (some (l++[b])) (0:Int).toNat (1006:Int).toNat)=(l++[b]).take 1006:=by rw[M1];rfl
   rw[C];have f:el (S0 (some ((l++[b]).take 1006++[0])) s)=(l++[b]).take 1006++[0]++(l++[b]).drop 1008:=by rw[T9,p,E3]
   have k:∃ z,S0 (some ((l++[b]).take 1006++[0])) s=some z/\z=(l++[b]).take 1006++[0]++(l++[b]).drop 1008:=by
    cases y:S0 (some ((l++[b]).take 1006++[0])) s with
    | none=>rw[y]at f;have:=G2 List.length f;simp[el]at this
    | some z=>exact⟨z,rfl,by rw[y]at f;exact f⟩
   obtain⟨z,E,rfl⟩:=k;rw[E];have g:∀ i:Nat,i<1006->((l++[b]).take 1006++[0]++(l++[b]).drop 1008).getD i 0=(l++[b]).getD i 0:=fun i hi=>by
    rw[N5,lW (by rw[G3];omega)];simp[B4,List.getElem?_take,hi]
   refine EW ?_ ?_ ?_ ?_ ?_
   .simp only[B1,G3,F6,G1];omega
   .intro x j;rcases B5.1 j with j|j
    .rcases B5.1 j with j|j
     .exact n x (N3 j)
     .have:x=0:=by simpa using j
      omega
    .exact n x (K0 j)
   .simp only[B1,G3,F6,G1];omega
   .rw[g 0 B8];exact v
   .rw[g 1 B8];exact h
  .rename_i h3;rw[A]at h3;exact EW A0 n A0 v h
def Q0(l:List Int):(iB l).length=l.length:=by unfold iB;simp
def B8U{l:List Int}(F:(l.length:Int)<=1012)(w:By l)(G:2<=(l.length:Int))(n:l.getD 0 0=27)(j:l.getD 1 0<128)(h0:0<=b)(h1:b<256):Iv (sqP (some (l++[b])) b):=by
 have p:=nT w h0 h1;have A:(l++[b]).getD 0 0=27:=by rw[lW A0];exact n
 have B:(l++[b]).getD 1 0<128:=by rw[lW A0];exact j
 have hlen:((iB (l++[b])).length:Int)=l.length+1:=by rw[Q0];simp
 have hw:((iB (l++[b])).length:Int)<=24->Iv (some (l++[b])):=fun h=>EW (by rw[Q0]at h;omega) p (by rw[Q0]at hlen;omega) A B
 have t:Iv (none:D4):=aZ;have D:Iv (fsP [] none b):=JS (.inl rfl) (fun x C=>by cases C) h0 h1;have y:∀ k,sqC (iB (l++[b])) b=k->(k=0->6<=((iB (l++[b])).length:Int))/\(k=1->((iB (l++[b])).length:Int)<=24):=by
  intro k f;have hC:∀ k,sqH (iB (l++[b]))=k->(k=0->False)/\(k=1->((iB (l++[b])).length:Int)<=24):=by
   intro k f;unfold sqH at f;split at f<;>subst f<;>exact⟨fun h=>(by cases h),fun h=>by first|(cases h;done)|omega⟩
  have v:∀ k,sqG (iB (l++[b])) b=k->(k=0->False)/\(k=1->((iB (l++[b])).length:Int)<=24):=by
   intro k f;unfold sqG at f;split at f
   .split at f
    .exact hC k f
    .subst f;exact⟨fun h=>(by cases h),fun h=>by cases h⟩
   .subst f;exact⟨fun h=>(by cases h),fun h=>by cases h⟩
  have E:∀ k,sqF (iB (l++[b])) b=k->(k=0->False)/\(k=1->((iB (l++[b])).length:Int)<=24):=by
   intro k f;unfold sqF at f;split at f
   .subst f;exact⟨fun h=>(by cases h),fun h=>by cases h⟩
   .split at f
    .split at f
     .subst f;exact⟨fun h=>(by cases h),fun h=>by cases h⟩
     .exact v k f
    .exact v k f
  have s:∀ k,sqE (iB (l++[b])) b=k->(k=0->False)/\(k=1->((iB (l++[b])).length:Int)<=24):=by
   intro k f;unfold sqE at f;split at f
   .rename_i h;subst f;exact⟨fun h=>(by cases h),fun _=>by rw[h];decide⟩
   .exact E k f
  have o:∀ k,sqD (iB (l++[b])) b=k->(k=0->False)/\(k=1->((iB (l++[b])).length:Int)<=24):=by
   intro k f;unfold sqD at f;split at f
   .split at f
    .subst f;exact⟨fun h=>(by cases h),fun _=>by omega⟩
    .exact s k f
   .exact s k f
  unfold sqC at f;split at f
  .rename_i hp;split at f
   .subst f;exact⟨fun _=>by have:=NZ hp;simp only[B6,E0]at this;omega,fun h=>by cases h⟩
   .exact⟨fun h=>((o k f).1 h).elim,(o k f).2⟩
  .exact⟨fun h=>((o k f).1 h).elim,(o k f).2⟩
 unfold sqP;show Iv (match sqC (iB (l++[b])) b with|0=>psP (some (l++[b]))|1=>some (l++[b])|2=>none|3=>fsP [] none b|_=>none)
 match h:sqC (iB (l++[b])) b with
 | 0=>exact B8V F w (by have:=(y 0 h).1 rfl;omega) n j h0 h1
 | 1=>exact hw ((y 1 h).2 rfl)
 | 2=>exact t
 | 3=>exact D
 | k+4=>exact t
def A6B{l:List Int}(f:By l)(h:iB l=[27]):l=[27]:=by
 match l,f,h with
 | [],_,h=>cases h
 | [a],f,h =>
   have h:[UInt8.ofNat a.toNat]=[27]:=h;have h:=(L8 h).1;have n:=f a (by simp);have j:=G2 UInt8.toNat h;have h3:(UInt8.ofNat a.toNat).toNat=a.toNat:=by rw[UInt8.toNat_ofNat'];exact O6 A0
   rw[h3]at j;have k:(27:UInt8).toNat=27:=rfl;rw[k]at j;have:a=27:=A0;rw[this]
 | a::c::r,_,h=>simp[iB]at h
def A51{p:D4}(h:Iv p)(h0:0<=b)(h1:b<256):Iv (stP p b):=by
 obtain⟨A,n,j⟩:=h;have y:Iv (fsP [] none b):=JS (.inl rfl) (fun x k=>by cases k) h0 h1;unfold stP;split
 .exact JS (.inl rfl) n h0 h1
 .split
  .exact JS (.inl rfl) n h0 h1
  .rename_i v t;have f:(el p).getD 0 0=27/\(((el p).length:Int)=1∨(2<=((el p).length:Int)/\((el p).getD 1 0<128∨knd ((el p).drop 1)=1))):=by
    rcases j with j|j|j
    .rw[j]at v;exact absurd rfl v
    .exact absurd (gX (fun e=>v (by rw[e];rfl)) j) t
    .exact j
   split
   .rename_i s;have B:2<=((el p).length:Int):=by
     rcases f.2 with h|h
     .exfalso;have:el p=[27]:=by
       match o:el p with
       | []=>rw[o]at h;cases h
       | [a]=>rw[o]at f;have:=f.1;simp at this;rw[this]
       | a::c::r=>rw[o]at h;simp at h;omega
      exact s (by rw[this];rfl)
     .exact h.1
    split
    .exact JS (.inr rfl) (fun x k=>by rw[M1]at k;exact n x (K0 (N3 k))) h0 h1
    .rename_i w;split
     .split
      .split
       .exact aZ
       .exact y
      .exact y
     .exact B8U A n B f.1 A0 h0 h1
   .rename_i he;have he:=A6B n (K2.1 he);split
    .exact⟨A,n,j⟩
    .split
     .rename_i e;rw[he,e];exact EW B8 (nT (A7E B8 B8) B8 B8) B8 rfl B8
     .split
      .rename_i e;rw[he,e];exact EW B8 (nT (A7E B8 B8) B8 B8) B8 rfl B8
      .exact JS (.inr rfl) (fun x k=>by cases k) h0 h1
def GF:∀ (l:List Int) (m:Int) (x:Option (List Xt)),((el (cI l m x)).length:Int)<=(el x).length+l.length
 | [],_,x=>by show((el x).length:Int)<=_;simp
 | c::r,m,x=>by
   have e:∀ y:Xt,((el (some (el x++[y]))).length:Int)=(el x).length+1:=fun y=>by rw[E3];simp
   unfold cI;split
   .split
    .have:=GF r 0 x;simp only[B6];omega
    .have:=GF r 0 (some (el x++[ipK (plC c) (plM c)]));rw[e]at this;simp only[B6];omega
   .split
    .have:=GF r 0 (some (el x++[ipK c m]));rw[e]at this;simp only[B6];omega
    .have:=GF r 0 x;simp only[B6];omega
def nM{f:C8}{x:Option (List Xt)}:((el (fsI f q b x)).length:Int)<=(el x).length+2:=by
 unfold fsI;split
 .omega
 .split
  .rw[E3];simp<;>omega
  .have:=GF (el (utC (el q) b)) ((f.length:Int)*2) x
   have:=LP (l:=el q) (b:=b);omega
def A1W{s:C8}{x:Option (List Xt)}:((el (cmI s mp x)).length:Int)<=(el x).length+2:=by
 unfold cmI;split
 .rw[E3];simp<;>omega
 .omega
def A8d{x:Option (List Xt)}:((el (psI a x)).length:Int)<=(el x).length+2:=by
 unfold psI;split
 .rw[E3];simp<;>omega
 .omega
def A7y{x:Option (List Xt)}:((el (sqI a b mp x)).length:Int)<=(el x).length+2:=by
 unfold sqI;split
 .exact A8d
 .omega
 .exact A1W
 .exact nM
 .omega
def ME{p:D4}{x:Option (List Xt)}:((el (stI p b mp x)).length:Int)<=(el x).length+2:=by
 unfold stI;split
 .exact nM
 .split
  .exact nM
  .split
   .split
    .exact nM
    .split
     .split
      .split
       .exact A1W
       .exact nM
      .exact nM
     .exact A7y
   .split
    .rw[E3,B1,G1];omega
    .split
     .omega
     .split
      .omega
      .exact nM
noncomputable def A7b:List LpE:=[(72,([true,true,false,true,false],O5 prog gl n0 7 QP lK)),(72,([true,true,false,true,false,false,true,false,false,true,false],O5 prog gl n0 7 IJ pB))]
def VK{G}(f:I6 G):g8 prog G gl A7b:=(.cons func72 QO QN (ZN f) (.cons func72 II IH (QQ f) .nil))
def B7i{l:List Int}(h:Lib.hasPrefix (iB l) [27,79]=true):Lib.hasPrefix (iB (l++[b])) [27,91]=false:=by
 have e:iB (l++[b])=iB l++iB [b]:=by unfold iB;exact O2
 rw[e]
 match iB l,h with
 | [],h=>cases h
 | [a],h =>
   have h:((27:UInt8) == a && false)=true:=h;rw[P5]at h;cases h
 | a::c::r,h =>
   have h:((27:UInt8) == a && ((79:UInt8) == c && true))=true:=h;obtain⟨_,h⟩:=P6 h;obtain⟨h,_⟩:=P6 h
   have:=eq_of_beq h;subst this;show((27:UInt8) == a && ((91:UInt8) == 79 && _))=false;rw[show((91:UInt8) == 79)=false from by decide,Q5,P5]
def B2Z{l:List Int}(o:0<=b)(k:b<256)(h:2<=(l.length:Int)):Lib.hasPrefix (iB (l++[b])) [27,91,60]=false∨4<=((l++[b]).length:Int)∨b=60:=by
 match l,h with
 | [],h=>simp at h
 | [_],h=>simp at h
 | _::_::_::_,_=>right;left;simp only[B1,B6];omega
 | [x,y],_ =>
   cases f:Lib.hasPrefix (iB ([x,y]++[b])) [27,91,60]with
   | false=>exact .inl rfl
   | true =>
     right;right
     have f:((27:UInt8) == UInt8.ofNat x.toNat && ((91:UInt8) == UInt8.ofNat y.toNat && ((60:UInt8) == UInt8.ofNat b.toNat && true)))=true:=f;obtain⟨_,f⟩:=P6 f;obtain⟨_,f⟩:=P6 f;obtain⟨f,_⟩:=P6 f;have j:=G2 UInt8.toNat (eq_of_beq f);rw[UInt8.toNat_ofNat',O6 (show b.toNat<2 ^ 8 by omega)]at j;have n:(60:UInt8).toNat=60:=rfl;rw[n]at j;omega
def Iv.len1{p:D4}(h:Iv p)(o:¬((el p).length:Int)=0)(j:¬(el p).getD 0 0>=128)(s:iB (el p)≠[27]):2<=((el p).length:Int)/\(el p).getD 0 0=27/\((el p).getD 1 0>=128->knd ((el p).drop 1)=1):=by
 obtain⟨v,t,f⟩:=h;rcases f with f|f|f
 .rw[f]at o;exact absurd rfl o
 .exact absurd (gX (fun e=>o (by rw[e];rfl)) f) j
 .rcases f.2 with h|h
  .exfalso;have:el p=[27]:=by
    match n:el p with
    | []=>rw[n]at h;cases h
    | [a]=>rw[n]at f;have:=f.1;simp at this;rw[this]
    | a::c::r=>rw[n]at h;simp at h;omega
   exact s (by rw[this];rfl)
  .exact⟨h.1,f.1,fun k=>h.2.resolve_left A0⟩
def Iv.px{p:D4}(h:Iv p)(j:((el p).length:Int)=0∨(el p).getD 0 0>=128):((el p).length:Int)<=100/\(((el p).length:Int)=0∨knd (el p)=1):=by
 obtain⟨n,k,f⟩:=h;rcases j with j|j
 .exact⟨A0,.inl j⟩
 .rcases f with f|f|f
  .rw[f]at j;exact absurd j B8
  .have:=iV f;exact⟨A0,.inr f⟩
  .omega
def B8X{p:D4}(h:Iv p):((el p).length:Int)<=1012/\∀ x ∈ el p,0<=x/\x<256:=⟨h.1,h.2.1⟩
def QK{p:D4}:el (P8 p (1:Int).toNat ((el p).length:Int).toNat)=(el p).drop 1:=by
 rw[M1];exact L7 (by simp only[F6];omega)
def QJ{p:D4} :some (el (P8 p (0:Int).toNat ((el p).length:Int).toNat)++[b])=some (el p++[b]):=by rw[gK]
noncomputable def C0N:L5:=⟨_,fun f=>(.cons (qO f) (.cons (A00 f) (.consM (B3Q f) (.consM (B34 f) (.consM (B6Z f) .nil)))))⟩
def pJ:List U->Option (Nat×List U)
 | [u_bs,.int .i64 n,.int .i64 i,u_p,u_inp,u_mp]=>(J3 rB u_bs).bind fun bs=>(J3 rB u_p).bind fun p=>(J3 rI u_inp).bind fun f=>(J3 rQ u_mp).bind fun mp=>if n=((el bs).length:Int)/\0<=i/\i<=n/\n<=10000/\(∀ x ∈ el bs,0<=x/\x<256)/\Iv p/\((el f).length:Int)+2*(n-i)<=100000 then some (0,[B2 rB (rnP ((el bs).drop i.toNat) p),B2 rI (rnI ((el bs).drop i.toNat) p mp f),B2 rQ mp])else none
 | _=>none
def vM(bs:D4)(n:Int)(i:Int)(p:D4)(f:(Option (List (Int×Int×Int×Int×Int×Int×Int×C8))))(mp:(Option (List (C8×Int×Int×Int×Int×Int×Int×Int×C8))))(j:n=((el bs).length:Int)/\0<=i/\i<=n/\n<=10000/\(∀ x ∈ el bs,0<=x/\x<256)/\Iv p/\((el f).length:Int)+2*(n-i)<=100000):pJ [B2 rB bs,.int .i64 n,.int .i64 i,B2 rB p,B2 rI f,B2 rQ mp]=some (0,[B2 rB (rnP ((el bs).drop i.toNat) p),B2 rI (rnI ((el bs).drop i.toNat) p mp f),B2 rQ mp]):=by
 simp only[pJ,F1,C4];exact A4 j
def B48{bs p:D4}{n:Int}{f:Option (List Xt)}{Y:D4}{Z:Option (List Xt)}(j:n=((el bs).length:Int)/\0<=i/\i<=n/\n<=10000/\(∀ x ∈ el bs,0<=x/\x<256)/\Iv p/\((el f).length:Int)+2*(n-i)<=100000)(hi:i<n)(v:stP p ((el bs).getD i.toNat default)=Y)(s:stI p ((el bs).getD i.toNat default) mp f=Z) :
  pJ [B2 rB bs,.int .i64 n,.int .i64 (i+1),B2 rB Y,B2 rI Z,B2 rQ mp]=pJ [B2 rB bs,.int .i64 n,.int .i64 i,B2 rB p,B2 rI f,B2 rQ mp]:=by
 have k:0<=((el bs).getD i.toNat default)/\((el bs).getD i.toNat default)<256:=y0 (l:=el bs) j.2.2.2.2.1 A0 A0;have w:=ME (p:=p) (b:=((el bs).getD i.toNat default)) (mp:=mp) (x:=f);have t:=A51 j.2.2.2.2.2.1 k.1 k.2;have o:=B68 (l:=el bs) (i:=i) p A0 A0;have z2:=B6_ (l:=el bs) (i:=i) p mp f A0 A0;subst v s;rw[vM bs n (i+1) _ _ mp ⟨j.1,A0,A0,j.2.2.2.1,j.2.2.2.2.1,t,A0⟩,vM bs n i p f mp j,o,z2]
def B1c:Q7:=⟨[(5,.pointer (some ⟨9,0,none⟩)),(6,.slice (some ⟨13,0,none⟩) 5 5),(17,dat 14 0 11),(18,h 1 3),(19,h 2 3)],[(9,.cells 83 [dat 15 3 11,.map (some 7),own 16 4 18]),(13,.cells 113 [.func (.func 98) ⟨[]⟩ ⟨[.pointer (some ⟨10,0,none⟩)]⟩,.func (.func 100) ⟨[]⟩ ⟨[.pointer (some ⟨10,0,none⟩),.pointer (some ⟨12,0,none⟩)]⟩,.func (.func 103) ⟨[]⟩ ⟨[.pointer (some ⟨10,0,none⟩)]⟩,.func (.func 104) ⟨[]⟩ ⟨[.pointer (some ⟨11,0,none⟩),.pointer (some ⟨10,0,none⟩),.pointer (some ⟨12,0,none⟩)]⟩,.func (.func 106) ⟨[]⟩ ⟨[.pointer (some ⟨10,0,none⟩),.pointer (some ⟨12,0,none⟩)]⟩]),(10,.cells 79 [.pointer (some ⟨9,0,none⟩)]),(11,.cells 133 [.func (.func 96) ⟨[]⟩ ⟨[]⟩]),(12,.cells 134 [.func (.func 97) ⟨[]⟩ ⟨[]⟩]),(7,.mp 5 19 81),(16,.sq 4 18 23 17),(14,.frz),(15,.frz),(17,.frz)],6,[⟨.exit 0,[(5,.pointer (some ⟨9,0,none⟩))],[(9,.cells 83 [dat 18 0 11,.map (some 7),own 19 1 18]),(7,.mp 2 19 81),(19,.sq 1 18 23 20),(18,.frz),(20,.frz)],3⟩]⟩
noncomputable def A4K:Code:=(f46.body).getD .skip
noncomputable def B1Y:Code:=match H5 [true,true,true,false,true,false] A4K with|some (.loop x)=>x|_=>.skip
def B1b:f46.body=some A4K:=rfl
def B1a:H5 [true,true,true,false,true,false] A4K=some (.loop B1Y):=C3
def mS(a0:Nat)(f:Nat)(a2:Nat)(a3:Nat):Tr:=aA [h3 2,jI 1]<|.ret [jI (-1),h 0 11,h3 1,h3 a3,h a0 11,h f 18,h a2 19]
def A4H(n:Nat):Tr:=.fn tE [.string ⟨⟨[]⟩⟩,h 3 11,h 8 4,h 3 11,h 4 18,h 5 19] 3<|mS n (n+1) (n+2) (n+3)
def A4G(n:Nat):Tr:=.fn tE [.string ⟨⟨[27]⟩⟩,h 19 11,h 8 4,h 3 11,h 4 18,h 5 19] 3<|mS n (n+1) (n+2) (n+3)
def A4F(n:Nat):Tr:=.dt 11 (.nilw 1) []<|.fn tE [.string ⟨⟨[]⟩⟩,h n 11,h 8 4,h 3 11,h 4 18,h 5 19] 3<|mS (n+1) (n+2) (n+3) (n+4)
def A4E(n:Nat):Tr:=.dt 11 (.subs 1) [h 3 11,jI 0,h3 9]<|.dt 11 (.snoc 1) [h n 11,h 8 4]<|mS (n+1) 4 5 (n+2)
def BH(a0:Int)(f:Nat)(a2:Nat)(j k:Tr):Tr:=.lt 4 (.get 1 0) [h f 11,jI a0]<|aH [h a2 4,.int .u8 (128)]<|.br (a2+1) j k
def B1Z:Tr:=aV 2 1 6 (J9 0 2 7 (.lt 4 (.get 1 0) [h 0 11,h3 2]<|n9 0 3 9 (A4H 11) (H1 3 0 11 (BH 0 3 12 (A4H 14) (.lt 9 (.str) [h 3 11]<|aN [h 14 9,.string ⟨⟨[27]⟩⟩]<|.br 15 (H1 3 1 16 (BH 1 3 17 (.dt 11 (.subs 1) [h 3 11,jI 1,h3 9]<|A4G 20) (.lt 9 (.str) [h 3 11]<|.fn iZ [h 19 9,.string ⟨⟨[27,79]⟩⟩] 1<|J5 20 21 (.dt 11 (.subs 1) [h 3 11,jI 0,h3 9]<|.dt 11 (.snoc 1) [h 22 11,h 8 4]<|.fn IG [h 23 11,h 8 4,h 3 11,h 4 18,h 5 19] 3<|mS 24 25 26 27) (.lt 3 (.conv .i64) [h 8 4]<|J6 22 23 64 (X0 22 24 126 (.dt 11 (.subs 1) [h 3 11,jI 0,h3 9]<|.dt 11 (.snoc 1) [h 25 11,h 8 4]<|.lt 9 (.str) [h 26 11]<|.fn AK [h 27 9,h 3 11,h 4 18,h 5 19] 3<|mS 28 29 30 31) (A4F 25)) (A4F 24))))) (gJ 8 16 (.dt 18 (.snoc 8) [h 4 18,jI 1,jI 1114138,jI 0,jI 0,jI 0,jI 0,jI 0,.string ⟨⟨[]⟩⟩]<|mS 3 17 5 18) (aE [h 8 4,.int .u8 (91)]<|.br 17 (A4E 18) (aE [h 8 4,.int .u8 (79)]<|.br 18 (A4E 19) (.dt 11 (.nilw 1) []<|A4G 20))))))))) (n8 4 3)
def A4J:List U->Nat
 | [u_bs,.int .i64 n,.int .i64 i,u_p,u_inp,u_mp]=>(match J3 rB u_bs with|some bs=>(match J3 rB u_p with|some p=>(match J3 rI u_inp with|some f=>(match J3 rQ u_mp with|some mp=>(n-i).toNat|none=>0)|none=>0)|none=>0)|none=>0)
 | _=>0
def A4I(bs:D4)(n:Int)(i:Int)(p:D4)(f:(Option (List (Int×Int×Int×Int×Int×Int×Int×C8))))(mp:(Option (List (C8×Int×Int×Int×Int×Int×Int×Int×C8)))):A4J [B2 rB bs,.int .i64 n,.int .i64 i,B2 rB p,B2 rI f,B2 rQ mp]=(n-i).toNat:=by
 simp only[A4J,F1]
def B66{G}(B:I6 G):∀ (E:Nat->U) (base:Nat),@U0 ⟨E,G⟩ prog base gl f46.ntmps B1Y (O5 prog gl n0 21 B1c pJ):=by
 refine V7 (dep:=60) (f:=46) (n0:=n0) (nB:=21) (H0:=H0) A4J B1Z (cxg (C0N.2 B) (VK B)) B func46 B1b B1a C3 C3 C3 ?_;intro us d outs k;have J:=k;unfold pJ at k;split at k
 .skip;rename_i L n i N I M;have C:=A5.1 k;clear k;obtain⟨bs,t,k⟩:=C;replace t:=F2 t;subst t;have F:=A5.1 k;clear k;obtain⟨p,y,k⟩:=F;replace y:=F2 y;subst y;have A:=A5.1 k;clear k;obtain⟨H,j,k⟩:=A;replace j:=F2 j;subst j;have D:=A5.1 k;clear k;obtain⟨mp,s,k⟩:=D;replace s:=F2 s;subst s;split at k
  .rename_i v;clear k J;have o:i<n->0<=((el bs).getD i.toNat default)/\((el bs).getD i.toNat default)<256:=fun h=>y0 (l:=el bs) v.2.2.2.2.1 A0 A0
   have w:=B8X v.2.2.2.2.2.1;refine⟨rfl,?_⟩;unfold B1Z;refine w0 (.cons 5 _ (.cons 4 _ (.cons 3 _ (.cons 2 _ (.cons 1 _ (.cons 0 _ (.nil))))))) ?_;repeat (first|refine V1 ?_|refine O0 ?_|refine w4 (fun g=>?_) fun g=>?_|refine w4B (fun g=>?_) fun g=>?_|(refine w7 [.int .i64 _,B2 rB _,.int .i64 _,.int .i64 _,B2 rB _,B2 rI _,B2 rQ _] ?_;rotate_left)|(refine w3 tE (e:=OA _ _ _ _ _ _ (by first|exact⟨.inl rfl,⟨(Iv.px v.2.2.2.2.2.1 (.inl ‹_›)).1,(Iv.px v.2.2.2.2.2.1 (.inl ‹_›)).2,(o ‹_›).1,(o ‹_›).2,w.2⟩,A0⟩|exact⟨.inl rfl,⟨(Iv.px v.2.2.2.2.2.1 (.inr ‹_›)).1,(Iv.px v.2.2.2.2.2.1 (.inr ‹_›)).2,(o ‹_›).1,(o ‹_›).2,w.2⟩,A0⟩|exact⟨.inr rfl,⟨by rw[QK];have:=iV ((Iv.len1 v.2.2.2.2.2.1 ‹_› ‹_› ‹_›).2.2 ‹_›);omega,.inr (by rw[QK];exact(Iv.len1 v.2.2.2.2.2.1 ‹_› ‹_› ‹_›).2.2 ‹_›),(o ‹_›).1,(o ‹_›).2,kX w.2⟩,A0⟩|exact⟨.inr rfl,⟨B8,.inl rfl,(o ‹_›).1,(o ‹_›).2,fun x K=>by cases K⟩,A0⟩|exact⟨.inl rfl,⟨B8,.inl rfl,(o ‹_›).1,(o ‹_›).2,fun x K=>by cases K⟩,A0⟩)) (k':=?_);show Wk _ _ (.cons _ _ (.cons _ _ (.cons _ _ _))))|refine w2 (.subs 1) (r:=rB) (e:=Z0 rfl A0 A0 A0) (k':=?_)|refine R8 ?_|refine w2 (.snoc 1) (r:=rB) (e:=S3 rfl rfl B8 (by first|omega|(simp only[M1,G3,F6];omega))) (k':=?_)|refine Y4 ?_|refine w1 (.get 1 0) (u:=.int .u8 _) (e:=I5 rfl A0 A0 rfl) (k':=?_)|refine bK ?_|refine w1 (.str) (e:=u9 rfl (by first|exact w.2|(rw[QJ];exact nT w.2 (o ‹_›).1 (o ‹_›).2))) (k':=?_)|refine w2 (.nilw 1) (r:=rB) (e:=G6 rfl) (k':=?_)|(refine w8 ?_;first|omega|(have z:=(Iv.len1 v.2.2.2.2.2.1 ‹_› ‹_› ‹_›).1;omega))|refine Y3 ?_|refine iD ?_|refine m5 ?_|refine X1 ?_|refine W3 ?_|refine P7 ?_|refine A26 ?_|refine w31 iZ (e:=CF _ [27,79]) (k':=?_)|(refine w3 IG (e:=ZO _ _ _ _ _ (by rw[QJ];exact⟨by rw[E3,la];have:=(Iv.len1 v.2.2.2.2.2.1 ‹_› ‹_› ‹_›).1;omega,by rw[E3,la];omega,nT w.2 (o ‹_›).1 (o ‹_›).2,(o ‹_›),B2Z (o ‹_›).1 (o ‹_›).2 (Iv.len1 v.2.2.2.2.2.1 ‹_› ‹_› ‹_›).1,A0⟩)) (k':=?_);show Wk _ _ (.cons _ _ (.cons _ _ (.cons _ _ _))))|refine iE ?_|(refine w3 AK (e:=OQ _ _ _ _ (by rw[QJ];exact⟨.inl (B7i (nbF ‹_›)),A0⟩)) (k':=?_);show Wk _ _ (.cons _ _ (.cons _ _ (.cons _ _ _))))|refine w2 (.snoc 8) (r:=rI) (e:=S3 (a:=(_,_,_,_,_,_,_,_)) rfl rfl B8 (by first|omega|(simp only[M1,G3,F6];omega))) (k':=?_)|(refine w7 [.int .i64 _,B2 rB _,B2 rI _,B2 rQ _] ?_;rotate_left))
   all_goals first
    | refine M0 ?_ ?_
      .exact B48 v ‹_› (by unfold stP;(repeat (first|rw[A4 (by first|assumption|exact nbF ‹_›|exact ntf (nbT ‹_›)|omega)]|rw[A3 (by first|assumption|exact nbF ‹_›|exact ntf (nbT ‹_›)|omega)]));(try rw[QJ]);(try rfl)) (by unfold stI;(repeat (first|rw[A4 (by first|assumption|exact nbF ‹_›|exact ntf (nbT ‹_›)|omega)]|rw[A3 (by first|assumption|exact nbF ‹_›|exact ntf (nbT ‹_›)|omega)]));(try rw[QJ]);(try rfl))
      .rw[A4I,A4I];omega
    | refine H6 (d:=0) ?_
      rw[vM bs n i p H mp v,B69 (l:=el bs) (i:=i) A0,B7A (l:=el bs) (i:=i) A0]
  .cases k
 .cases k
noncomputable def A7a:List LpE:=[(46,([true,true,true,false,true,false],O5 prog gl n0 21 B1c pJ)),(72,([true,true,false,true,false],O5 prog gl n0 7 QP lK)),(72,([true,true,false,true,false,false,true,false,false,true,false],O5 prog gl n0 7 IJ pB))]
def qX{G}(f:I6 G):g8 prog G gl A7a:=(.cons func46 B1b B1a (B66 f) (.cons func72 QO QN (ZN f) (.cons func72 II IH (QQ f) .nil)))
def vdS(p:D4):Bool:=decide (iB (el (rnP (el p) none))=iB (el p)) && decide (((el (rnI (el p) none (some fR) none)).length:Int)=0)
def dcE(p b:D4):Int:=if vdS p=false then 431 else if 4096<((el b).length:Int)then 3 else 0
def dcP(p b:D4):D4:=if dcE p b=0 then rnP (el b) p else none
def dcI(p b:D4):Option (List Xt):=if dcE p b=0 then rnI (el b) p (some fR) none else none
def C1V{p:D4}(h:¬iB (el (rnP (el p) none))=iB (el p)):vdS p=false:=by unfold vdS;rw[C9 h,Q5]
def C1U{p:D4}(h:iB (el (rnP (el p) none))=iB (el p)):vdS p=decide (((el (rnI (el p) none (some fR) none)).length:Int)=0):=by unfold vdS;rw[D3 h,Q6]
def NY:∀ {l r:List Int},By l->By r->iB l=iB r->l=r
 | [],[],_,_,_=>rfl
 | [],_::_,_,_,h=>by cases h
 | _::_,[],_,_,h=>by cases h
 | a::l,b::r,hl,hr,h=>by
   have h:UInt8.ofNat a.toNat::iB l=UInt8.ofNat b.toNat::iB r:=h;obtain⟨h1,j⟩:=L8 h;have n:=hl a (by simp);have k:=hr b (by simp);have h3:=G2 UInt8.toNat h1;rw[UInt8.toNat_ofNat',UInt8.toNat_ofNat',O6 (show a.toNat<2 ^ 8 by omega),O6 (show b.toNat<2 ^ 8 by omega)]at h3;rw[NY (fun x f=>hl x (D1 _ f)) (fun x f=>hr x (D1 _ f)) j];rw[show a=b by omega]
def JR:∀ (l:List Int) {p:D4},By l->Iv p->Iv (rnP l p)
 | [],_,_,h=>h
 | b::r,p,hl,h=>JR r (fun x f=>hl x (D1 _ f)) (A51 h (hl b (by simp)).1 (hl b (by simp)).2)
def B29{p:D4}(h:Iv q)(e:el q=el p):Iv p:=by unfold Iv at *;rw[<- e];exact h
def B6J{p:D4}(hp:By (el p))(h:vdS p=true):el (rnP (el p) none)=el p/\((el (rnI (el p) none (some fR) none)).length:Int)=0:=by
 unfold vdS at h;obtain⟨h1,f⟩:=P6 h;exact⟨NY (JR (el p) hp aZ).2.1 hp (F4 h1),F4 f⟩
def B0E{p:D4}(hp:By (el p))(h:vdS p=true):Iv p:=B29 (JR (el p) hp aZ) (B6J hp h).1
def C1y:otF 1114113 (some A1z)=some fR:=A4 (by decide +kernel)
def B6e:oB (fun a b:Qt=>(a.1 == b.1 && true)) (oB (fun a b:Qt=>(a.1 == b.1 && true)) (oB (fun a b:Qt=>(a.1 == b.1 && true)) (some []) ([27,91,90],1,1114136,1,0,0,0,0,[])) ([27,91,79],4,0,0,0,0,0,0,[])) ([27,91,73],4,0,0,1,0,0,0,[])=some A1z:=C3
def B0l:lK [.int .i64 1114113,B2 rQ (oB (fun a b:Qt=>(a.1 == b.1 && true)) (oB (fun a b:Qt=>(a.1 == b.1 && true)) (oB (fun a b:Qt=>(a.1 == b.1 && true)) (some []) ([27,91,90],1,1114136,1,0,0,0,0,[])) ([27,91,79],4,0,0,0,0,0,0,[])) ([27,91,73],4,0,0,1,0,0,0,[]))]=some (0,[B2 rQ (some fR)]):=by
 rw[B6e,BU _ _ ⟨B8,B8,by exact fun h=>by cases h⟩,C1y]
def A2W{b d:Option (List Xt)}{f:Int}(h:a=c)(j:b=d)(h3:e=f):[B2 rB a,B2 rI b,.int .i64 e]=[B2 rB c,B2 rI d,.int .i64 f]:=by rw[h,j,h3]
def B8s{b d:Option (List Xt)}{f:Int}(j:b=d)(h3:e=f):[B2 rI b,.int .i64 e]=[B2 rI d,.int .i64 f]:=by rw[j,h3]
noncomputable def B9r:L5:=⟨_,fun f=>(.cons (qO f) .nil)⟩
def yX:List U->Option (Nat×List U)
 | [u_p]=>(J3 rB u_p).bind fun p=>if((el p).length:Int)<=5000/\∀ x ∈ el p,0<=x/\x<256 then some (0,[.bool (vdS p)])else none
 | _=>none
def ZA(p:D4)(f:((el p).length:Int)<=5000/\∀ x ∈ el p,0<=x/\x<256):yX [B2 rB p]=some (0,[.bool (vdS p)]):=by
 simp only[yX,F1,C4];exact A4 f
def B0B:Tr:=.dt 19 (.mk 9) []<|.dt 19 (.mput 9 1) [h 1 19,.string ⟨⟨[27,91,90]⟩⟩,jI 1,jI 1114136,jI 1,jI 0,jI 0,jI 0,jI 0,.string ⟨⟨[]⟩⟩]<|.dt 19 (.mput 9 1) [h 2 19,.string ⟨⟨[27,91,79]⟩⟩,jI 4,jI 0,jI 0,jI 0,jI 0,jI 0,jI 0,.string ⟨⟨[]⟩⟩]<|.dt 19 (.mput 9 1) [h 3 19,.string ⟨⟨[27,91,73]⟩⟩,jI 4,jI 0,jI 0,jI 1,jI 0,jI 0,jI 0,.string ⟨⟨[]⟩⟩]<|.fn lK [jI 1114113,h 4 19] 1<|aD [h 0 11]<|.dt 11 (.nilw 1) []<|.dt 18 (.nilw 8) []<|.fn pJ [h 0 11,h3 6,jI 0,h 7 11,h 8 18,h 5 19] 3<|.lt 9 (.str) [h 9 11]<|.lt 9 (.str) [h 0 11]<|aE [h 12 9,h 13 9]<|.br 14 (aD [h 10 18]<|fO 15 16 0) (I7)
def B0C{G}(k:I6 G):I8 prog G 45 [.s 11] yX [.s 8]:=by
 refine D0 (d:=60) B0B (cxg (B9r.2 k) (qX k)) k ⟨f45,_,func45,rfl⟩ C3 C3 ?_;intro us outs j;unfold yX at j;split at j
 .skip;rename_i t;have o:=A5.1 j;clear j;obtain⟨p,f,j⟩:=o;replace f:=F2 f;subst f;split at j
  .rename_i n;cases j;unfold B0B;refine w0 (.cons 0 _ (.nil)) ?_;refine w2 (.mk 9) (r:=rQ) (e:=I0 [] rfl B8 rfl) (k':=?_);refine w2 (.mput 9 1) (r:=rQ) (e:=dI (fun a b=>(a.1 == b.1 && true)) (_,_,_,_,_,_,_,_,_) rfl rfl (fun _=>rfl) (R1 _)) (k':=?_);refine w2 (.mput 9 1) (r:=rQ) (e:=dI (fun a b=>(a.1 == b.1 && true)) (_,_,_,_,_,_,_,_,_) rfl rfl (fun _=>rfl) (R1 _)) (k':=?_);refine w2 (.mput 9 1) (r:=rQ) (e:=dI (fun a b=>(a.1 == b.1 && true)) (_,_,_,_,_,_,_,_,_) rfl rfl (fun _=>rfl) (R1 _)) (k':=?_);refine w31 lK (e:=B0l) (k':=?_);refine P7 ?_;refine w2 (.nilw 1) (r:=rB) (e:=G6 rfl) (k':=?_);refine w2 (.nilw 8) (r:=rI) (e:=G6 rfl) (k':=?_);refine w3 pJ (e:=vM p _ _ none none _ ⟨rfl,B8,A0,A0,n.2,aZ,by show(0:Int)+_<=_;omega⟩) (k':=?_);show Wk _ _ (.cons _ _ (.cons _ _ (.cons _ _ _)));refine w1 (.str) (e:=u9 rfl (by first|exact n.2|exact(JR (el p) n.2 aZ).2.1)) (k':=?_);refine w1 (.str) (e:=u9 rfl (by first|exact n.2|exact(JR (el p) n.2 aZ).2.1)) (k':=?_);refine AR ?_;refine w5 (fun g0=>?_) fun g0=>?_
   .refine w7 [.bool _] ?_;refine l1 ?_;exact(C1V g0).symm
   refine P7 ?_;refine R8 ?_;refine w7 [.bool _] ?_;refine l1 ?_;exact(C1U g0).symm
  .cases j
 .cases j
noncomputable def C1A:L5:=⟨_,fun f=>(.cons (qO f) (.cons (B0C f) .nil))⟩
def KJ:List U->Option (Nat×List U)
 | [u_p,u_b]=>(J3 rB u_p).bind fun p=>(J3 rB u_b).bind fun b=>if((el p).length:Int)<=5000/\(∀ x ∈ el p,0<=x/\x<256)/\((el b).length:Int)<=5000/\∀ x ∈ el b,0<=x/\x<256 then some (0,[B2 rB (dcP p b),B2 rI (dcI p b),.int .i64 (dcE p b)])else none
 | _=>none
def A9h(p:D4)(b:D4)(f:((el p).length:Int)<=5000/\(∀ x ∈ el p,0<=x/\x<256)/\((el b).length:Int)<=5000/\∀ x ∈ el b,0<=x/\x<256):KJ [B2 rB p,B2 rB b]=some (0,[B2 rB (dcP p b),B2 rI (dcI p b),.int .i64 (dcE p b)]):=by
 simp only[KJ,F1,C4];exact A4 f
def BG(a0:Nat)(f:Int):Tr:=.dt 11 (.nilw 1) []<|.dt 18 (.nilw 8) []<|.ret [h a0 11,h (a0+1) 18,jI f]
def B3y:Tr:=.fn yX [h 0 11] 1<|J5 2 3 (BG 4 431) (aU 1 4 4096 (BG 6 3) (.dt 19 (.mk 9) []<|.dt 19 (.mput 9 1) [h 6 19,.string ⟨⟨[27,91,90]⟩⟩,jI 1,jI 1114136,jI 1,jI 0,jI 0,jI 0,jI 0,.string ⟨⟨[]⟩⟩]<|.dt 19 (.mput 9 1) [h 7 19,.string ⟨⟨[27,91,79]⟩⟩,jI 4,jI 0,jI 0,jI 0,jI 0,jI 0,jI 0,.string ⟨⟨[]⟩⟩]<|.dt 19 (.mput 9 1) [h 8 19,.string ⟨⟨[27,91,73]⟩⟩,jI 4,jI 0,jI 0,jI 1,jI 0,jI 0,jI 0,.string ⟨⟨[]⟩⟩]<|.fn lK [jI 1114113,h 9 19] 1<|.dt 18 (.nilw 8) []<|.fn pJ [h 1 11,h3 4,jI 0,h 0 11,h 11 18,h 10 19] 3<|.ret [h 12 11,h 13 18,jI 0]))
def B3z{G}(n:I6 G):I8 prog G 20 [.s 11,.s 11] KJ [.s 11,.s 18,.s 3]:=by
 refine D0 (d:=60) B3y (cxg (C1A.2 n) (qX n)) n ⟨f20,_,func20,rfl⟩ C3 C3 ?_;intro us outs f;unfold KJ at f;split at f
 .skip;rename_i x w;have o:=A5.1 f;clear f;obtain⟨p,j,f⟩:=o;replace j:=F2 j;subst j;have t:=A5.1 f;clear f;obtain⟨b,k,f⟩:=t;replace k:=F2 k;subst k;split at f
  .rename_i v;cases f;unfold B3y;refine w0 (.cons 1 _ (.cons 0 _ (.nil))) ?_;refine w31 yX (e:=ZA _ ⟨v.1,v.2.1⟩) (k':=?_);first|refine Y3 ?_|refine iD ?_
   first|refine w4 (fun g0=>?_) (fun g0=>?_)|refine w4B (fun g0=>?_) (fun g0=>?_)
   .refine w2 (.nilw 1) (r:=rB) (e:=G6 rfl) (k':=?_);refine w2 (.nilw 8) (r:=rI) (e:=G6 rfl) (k':=?_);refine w7 [B2 rB _,B2 rI _,.int .i64 _] ?_;have e:dcE p b=431:=A4 (nbT g0);exact A2W (A3 (by rw[e];decide)).symm (A3 (by rw[e];decide)).symm e.symm
   refine P7 ?_;refine cB ?_;refine w4 (fun g1=>?_) fun g1=>?_
   .refine w2 (.nilw 1) (r:=rB) (e:=G6 rfl) (k':=?_);refine w2 (.nilw 8) (r:=rI) (e:=G6 rfl) (k':=?_);refine w7 [B2 rB _,B2 rI _,.int .i64 _] ?_;have e:dcE p b=3:=(A3 (by rw[nbF g0];decide)).trans (A4 A0);exact A2W (A3 (by rw[e];decide)).symm (A3 (by rw[e];decide)).symm e.symm
   refine w2 (.mk 9) (r:=rQ) (e:=I0 [] rfl B8 rfl) (k':=?_);refine w2 (.mput 9 1) (r:=rQ) (e:=dI (fun a b=>(a.1 == b.1 && true)) (_,_,_,_,_,_,_,_,_) rfl rfl (fun _=>rfl) (R1 _)) (k':=?_);refine w2 (.mput 9 1) (r:=rQ) (e:=dI (fun a b=>(a.1 == b.1 && true)) (_,_,_,_,_,_,_,_,_) rfl rfl (fun _=>rfl) (R1 _)) (k':=?_);refine w2 (.mput 9 1) (r:=rQ) (e:=dI (fun a b=>(a.1 == b.1 && true)) (_,_,_,_,_,_,_,_,_) rfl rfl (fun _=>rfl) (R1 _)) (k':=?_);refine w31 lK (e:=B0l) (k':=?_);refine w2 (.nilw 8) (r:=rI) (e:=G6 rfl) (k':=?_);refine w3 pJ (e:=vM b _ _ p none _ ⟨rfl,B8,A0,A0,v.2.2.2,B0E v.2.1 (nbF g0),by show(0:Int)+_<=_;omega⟩) (k':=?_);show Wk _ _ (.cons _ _ (.cons _ _ (.cons _ _ _)));refine w7 [B2 rB _,B2 rI _,.int .i64 _] ?_;have e:dcE p b=0:=(A3 (by rw[nbF g0];decide)).trans (A3 A0);exact A2W (A4 e).symm (A4 e).symm e.symm
  .cases f
 .cases f
def fl1(p:D4):Prop:=1<=((el p).length:Int)/\iB (el (P8 p (0:Int).toNat (1:Int).toNat))=[27]
instance(p:D4):Decidable (fl1 p):=by unfold fl1;infer_instance
def flE(p:D4):Int:=if vdS p=false then 431 else 0
def flI(p:D4):Option (List Xt):=if vdS p=false then none else if fl1 p then(if((el p).length:Int)=1 then some [(1,1114138,0,0,0,0,0,[])]else if(el p).getD 1 0>=128 then some [(1,65533,2,0,0,0,0,[])]else none)else if((el p).length:Int)>0/\(el p).getD 0 0>=128 then some [(1,65533,0,0,0,0,0,[])]else none
def vf(h:(!z)=false):¬z=false:=by rw[nbF h];decide
def C2I{p:D4}(h:vdS p=true)(h1:¬fl1 p)(f:¬(((el p).length:Int)>0/\(el p).getD 0 0>=128)):none=flI p:=by unfold flI;rw[A3 (by rw[h];decide),A3 h1,A3 f]
def C2H{p:D4}(h:vdS p=true)(h1:¬fl1 p)(f:((el p).length:Int)>0/\(el p).getD 0 0>=128):some [(1,65533,0,0,0,0,0,[])]=flI p:=by unfold flI;rw[A3 (by rw[h];decide),A3 h1,A4 f]
def C2G{p:D4}(h:vdS p=true)(h1:fl1 p)(f:((el p).length:Int)=1):some [(1,1114138,0,0,0,0,0,[])]=flI p:=by unfold flI;rw[A3 (by rw[h];decide),A4 h1,A4 f]
def C2F{p:D4}(h:vdS p=true)(h1:fl1 p)(f:¬((el p).length:Int)=1)(h3:(el p).getD 1 0>=128):some [(1,65533,2,0,0,0,0,[])]=flI p:=by unfold flI;rw[A3 (by rw[h];decide),A4 h1,A3 f,A4 h3]
def B8u{p:D4}(h:vdS p=true)(h1:fl1 p)(f:¬((el p).length:Int)=1)(h3:¬(el p).getD 1 0>=128):none=flI p:=by unfold flI;rw[A3 (by rw[h];decide),A4 h1,A3 f,A3 h3]
def WR{p:D4}(h:1<=((el p).length:Int)):((el (P8 p (1:Int).toNat ((el p).length:Int).toNat)).length:Int)=((el p).length:Int)-1:=by rw[QK,F6];omega
def A3j{p:D4}:(el (P8 p (1:Int).toNat ((el p).length:Int).toNat)).getD (0:Int).toNat default=(el p).getD 1 0:=by
 rw[QK];show((el p).drop 1).getD 0 0=_;simp[B4]
noncomputable def C0y:L5:=⟨_,fun f=>(.cons (B0C f) .nil)⟩
def KB:List U->Option (Nat×List U)
 | [u_p]=>(J3 rB u_p).bind fun p=>if((el p).length:Int)<=5000/\∀ x ∈ el p,0<=x/\x<256 then some (0,[B2 rI (flI p),.int .i64 (flE p)])else none
 | _=>none
def A9A(p:D4)(f:((el p).length:Int)<=5000/\∀ x ∈ el p,0<=x/\x<256):KB [B2 rB p]=some (0,[B2 rI (flI p),.int .i64 (flE p)]):=by
 simp only[KB,F1,C4];exact A4 f
def rH(a0:Int)(f:Nat)(a2:Int):Tr:=.dt 18 (.mk 8) [jI 1,jI a2,jI a0,jI 0,jI 0,jI 0,jI 0,.string ⟨⟨[]⟩⟩]<|.ret [h f 18,jI 0]
def jT(a0:Nat)(f:Int):Tr:=.dt 18 (.nilw 8) []<|.ret [h a0 18,jI f]
def A6J(n:Nat):Tr:=aW 3 n 0 (H1 0 0 (n+1) (BH 0 0 (n+2) (rH 0 (n+4) 65533) (jT (n+4) 0))) (jT (n+1) 0)
def B3V:Tr:=.fn yX [h 0 11] 1<|J5 1 2 (jT 3 431) (aD [h 0 11]<|J6 3 4 1 (.dt 11 (.subs 1) [h 0 11,jI 0,jI 1]<|.lt 9 (.str) [h 5 11]<|aE [h 6 9,.string ⟨⟨[27]⟩⟩]<|J5 7 8 (A6J 9) (.dt 11 (.subs 1) [h 0 11,jI 1,h3 3]<|n9 0 9 10 (rH 0 12 1114138) (aW 10 12 0 (H1 9 0 13 (BH 0 9 14 (rH 2 16 65533) (jT 16 0))) (jT 13 0)))) (A6J 5))
def B3W{G}(k:I6 G):I8 prog G 21 [.s 11] KB [.s 18,.s 3]:=by
 refine D0 (d:=60) B3V (cxg (C0y.2 k) (qX k)) k ⟨f21,_,func21,rfl⟩ C3 C3 ?_;intro us outs j;unfold KB at j;split at j
 .skip;rename_i t;have n:=A5.1 j;clear j;obtain⟨p,f,j⟩:=n;replace f:=F2 f;subst f;split at j
  .rename_i o;cases j;unfold B3V;refine w0 (.cons 0 _ (.nil)) ?_;repeat (first|refine w4 (fun g=>?_) fun g=>?_|refine w4B (fun g=>?_) fun g=>?_|(refine w7 [B2 rI _,.int .i64 _] ?_;rotate_left)|refine w2 (.nilw 8) (r:=rI) (e:=G6 rfl) (k':=?_)|refine bK ?_|refine w2 (.mk 8) (r:=rI) (e:=I0 [(_,_,_,_,_,_,_,_)] rfl B8 rfl) (k':=?_)|refine Y3 ?_|refine iD ?_|refine cB ?_|refine Y4 ?_|refine w1 (.get 1 0) (u:=.int .u8 _) (e:=I5 rfl A0 A0 rfl) (k':=?_)|(refine w8 ?_;first|omega)|refine P7 ?_|refine w2 (.subs 1) (r:=rB) (e:=Z0 rfl A0 A0 A0) (k':=?_)|refine w31 yX (e:=ZA _ o) (k':=?_)|refine w1 (.str) (e:=u9 rfl (by exact kX o.2)) (k':=?_)|refine AR ?_|refine R8 ?_)
   all_goals
    first
    | (exfalso;omega)
    | (exfalso;have:=WR (p:=p) A0;omega)
    | (refine B8s ?_ ?_
       .unfold flI
        (repeat (first|rw[A4 (by first|exact nbT ‹_›|omega|exact⟨A0,by assumption⟩|exact⟨A0,K2.1 ‹_›⟩|(have:=WR (p:=p) A0;omega)|(rw[<- A3j];assumption))]|rw[A3 (by first|exact vf ‹_›|omega|exact fun h=>absurd h.2 ‹_›|exact fun h=>by have:=h.1;omega|(have:=WR (p:=p) A0;omega)|(rw[<- A3j];assumption))]));done
       .unfold flE;first|exact(A4 (nbT ‹_›)).symm|exact(A3 (vf ‹_›)).symm)
  .cases j
 .cases j
abbrev SL:Option (List Qt):=some fR
def B3R{f:C8}(h:el q=el q'):fsP f q b=fsP f q' b:=by unfold fsP;rw[h]
def B3T{f:C8}{x:Option (List Xt)}(h:el q=el q'):fsI f q b x=fsI f q' b x:=by unfold fsI;rw[h]
def C1Z{p:D4}{x:Option (List Xt)}(h:el p=el q):el (stP p b)=el (stP q b)/\stI p b mp x=stI q b mp x:=by
 have k:fsP [] p b=fsP [] q b:=B3R h;have o:fsI [] p b x=fsI [] q b x:=B3T h;have f:el (P8 p 1 (el q).length)=el (P8 q 1 (el q).length):=by rw[M1,M1,h]
 have n:fsP [27] (P8 p 1 (el q).length) b=fsP [27] (P8 q 1 (el q).length) b:=B3R f;have j:fsI [27] (P8 p 1 (el q).length) b x=fsI [27] (P8 q 1 (el q).length) b x:=B3T f;unfold stP stI;rw[h,k,o,n,j];refine⟨?_,rfl⟩
 (repeat' split)<;>first|rfl|exact h
def YJ:∀ (l:List Int) (m:Int) (x:Option (List Xt)),el (cI l m x)=el x++el (cI l m none)
 | [],_,x=>by show el x=el x++[];simp
 | c::r,m,x=>by
   unfold cI;split
   .split
    .exact YJ r 0 x
    .rw[YJ r 0 (some (el x++_)),YJ r 0 (some (el none++_)),E3,E3];show _=el x++(([]++_)++_);simp
   .split
    .rw[YJ r 0 (some (el x++_)),YJ r 0 (some (el none++_)),E3,E3];show _=el x++(([]++_)++_);simp
    .exact YJ r 0 x
def FD{f:C8}(x:Option (List Xt)):el (fsI f q b x)=el x++el (fsI f q b none):=by
 unfold fsI;split
 .show el x=el x++[];simp
 .split
  .rfl
  .exact YJ _ _ x
def B35{s:C8}(x:Option (List Xt)):el (cmI s mp x)=el x++el (cmI s mp none):=by
 unfold cmI;split
 .rfl
 .show el x=el x++[];simp
def B7g(x:Option (List Xt)):el (psI a x)=el x++el (psI a none):=by
 unfold psI;split
 .rfl
 .show el x=el x++[];simp
def B6d(x:Option (List Xt)):el (sqI a b mp x)=el x++el (sqI a b mp none):=by
 have f:el x=el x++el (none:Option (List Xt)):=by show el x=el x++[];simp
 unfold sqI;split
 .exact B7g x
 .exact f
 .exact B35 x
 .exact FD x
 .exact f
def B6Y{p:D4}(x:Option (List Xt)):el (stI p b mp x)=el x++el (stI p b mp none):=by
 have f:el x=el x++el (none:Option (List Xt)):=by show el x=el x++[];simp
 unfold stI;split
 .exact FD x
 .split
  .exact FD x
  .split
   .split
    .exact FD x
    .split
     .split
      .split
       .exact B35 x
       .exact FD x
      .exact FD x
     .exact B6d x
   .split
    .rfl
    .split
     .exact f
     .split
      .exact f
      .exact FD x
def A4L{mp:Option (List Qt)}:∀ (l:List Int) (p:D4) (x:Option (List Xt)),el (rnI l p mp x)=el x++el (rnI l p mp none)
 | [],_,x=>by show el x=el x++[];simp
 | b::r,p,x=>by
   show el (rnI r (stP p b) mp (stI p b mp x))=el x++el (rnI r (stP p b) mp (stI p b mp none));rw[A4L r _ (stI p b mp x),A4L r _ (stI p b mp none),B6Y x,N5]
def A8G{mp:Option (List Qt)}:∀ (l:List Int) {p q:D4} (x:Option (List Xt)),el p=el q->el (rnP l p)=el (rnP l q)/\el (rnI l p mp x)=el (rnI l q mp x)
 | [],_,_,_,h=>⟨h,rfl⟩
 | b::r,p,q,x,h=>by
   obtain⟨h1,f⟩:=C1Z (b:=b) (mp:=mp) (x:=x) h
   have:=A8G (mp:=mp) r (stI q b mp x) h1;exact⟨this.1,by show el (rnI r (stP p b) mp (stI p b mp x))=_;rw[f];exact this.2⟩
def Rp(p:D4):Prop:=el (rnP (el p) none)=el p/\el (rnI (el p) none SL none)=[]
def A2s{l:List Int}(f:0<((el (utC l b)).length:Int))(hr:0<((el (utR l b)).length:Int)):utR l b=some [b]/\knd [b]=1:=by
 unfold utR at *;unfold utC at f;by_cases k:knd (l++[b])=2
 .rw[A4 k]at hr;exact absurd hr B8
 .rw[A3 k]at hr f;rw[A3 k];by_cases h1:knd (l++[b])=1
  .rw[A4 h1]at f;exact absurd f B8
  .rw[A3 h1]at hr;rw[A3 h1];by_cases n:l=[]
   .rw[A4 n]at hr;exact absurd hr B8
   .rw[A3 n]at hr;rw[A3 n];unfold VT at *;by_cases j:knd [b]=1
    .rw[A4 j];exact⟨rfl,j⟩
    .rw[A3 j]at hr;exact absurd hr B8
def pbI:List Int:=[27,91,50,48,48,126]
def peI:List Int:=[27,91,50,48,49,126]
def A7g(t:List Int):Prop:=6<=t.length/\iB (t.drop (t.length-6))=iB peI
instance(t:List Int):Decidable (A7g t):=by unfold A7g;infer_instance
def XD(a:D4):el (psT a)=(el a).drop 6:=by
 unfold psT;rw[M1];exact L7 (by simp only[F6];omega)
def B0v :sfX (psT a) peL=decide (A7g ((el a).drop 6)):=by
 have h1:el (P8 (psT a) (((el (psT a)).length:Int)-(el peL).length).toNat ((el (psT a)).length:Int).toNat)=((el a).drop 6).drop (((el a).drop 6).length-6):=by
  rw[M1,XD];have e:(((((el a).drop 6).length:Nat):Int)-((el peL).length:Int)).toNat=((el a).drop 6).length-6:=by
   show(((((el a).drop 6).length:Nat):Int)-((6:Nat):Int)).toNat=_;omega
  rw[e];exact L7 (by simp only[F6];omega)
 unfold sfX A7g;rw[h1,XD];have j:((el peL).length:Int)=6:=rfl;have h3:iB (el peL)=iB peI:=rfl;rw[j,h3];by_cases f:6<=((el a).drop 6).length
 .rw[D3 (show(6:Int)<=((((el a).drop 6).length:Nat):Int) by omega),Q6];exact decide_eq_decide.2 ⟨fun h=>⟨f,h⟩,fun h=>h.2⟩
 .rw[C9 (show ¬(6:Int)<=((((el a).drop 6).length:Nat):Int) by omega),Q5];exact(C9 (fun h=>f h.1)).symm
def B7k{l:List Int}(j:By l)(h:Lib.hasPrefix (iB l) [27,91,50,48,48,126]=true):l=pbI++l.drop 6:=by
 have f:=NZ h;rw[Q0]at f;have f:6<=l.length:=f;have h:List.isPrefixOf [27,91,50,48,48,126] (iB l)=true:=h;rw[O7]at h;obtain⟨r,hr⟩:=h;have e:iB (l.take 6)=iB pbI:=by
  have:iB (l.take 6)=(iB l).take 6:=by unfold iB;exact bR
  rw[this,<- hr];rfl
 have:=NY (fun x k=>j x (N3 k)) (show By pbI from by unfold By;decide) e;rw[<- this];exact(V4 6 l).symm
def A44{l:List Int}{u:C8}(hu:u.length<=l.length)(h:Lib.hasPrefix (iB (l++[b])) u=true):Lib.hasPrefix (iB l) u=true:=by
 have e:iB (l++[b])=iB l++iB [b]:=by unfold iB;exact O2
 rw[e]at h;have h:List.isPrefixOf u (iB l++iB [b])=true:=h;rw[O7]at h;show List.isPrefixOf u (iB l)=true;rw[O7];exact List.prefix_of_prefix_length_le h (List.prefix_append _ _) (by rw[Q0];exact hu)
def Vx(x:Xt):Prop:=U9 x.1 x.2.1 x.2.2.1 x.2.2.2.1 x.2.2.2.2.1 x.2.2.2.2.2.1 x.2.2.2.2.2.2.1 x.2.2.2.2.2.2.2
instance(x:Xt):Decidable (Vx x):=by unfold Vx;infer_instance
def B51{x:D4}:el (P8 x (0:Int).toNat (min ((el x).length:Int) 1000).toNat)=(el x).take 1000:=by
 rw[M1];show((el x).drop 0).take _=_;rw[P4];by_cases h:(el x).length<=1000
 .rw[L7 h,L7 (by show(el x).length<=(min ((el x).length:Int) 1000).toNat-0;omega)]
 .congr 1;show(min ((el x).length:Int) 1000).toNat-0=1000;omega
end Go.Proofs.YtdimocjaepnifaaGreatDoor
