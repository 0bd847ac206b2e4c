/- The law KeysPastes: for every input the call returns true, and the arguments read behind it as they read before. No condition. -/
import Derived.Test.YtdimocjaepnifaaGreatDoorX12
namespace Go.Proofs.YtdimocjaepnifaaGreatDoor
set_option linter.all false
open Go Go.Sx
set_option maxRecDepth 100000
set_option maxHeartbeats 4000000
set_option linter.unusedVariables false
set_option linter.unusedSimpArgs false
def dgT(s:List UInt8):List UInt8:=((Lib.trimPrefix s [27,91,60]).drop (0:Int).toNat).take ((((Lib.trimPrefix s [27,91,60]).length:Int)-1).toNat-(0:Int).toNat)
def mdG(s:List UInt8):Bool:=!Lib.hasPrefix s [27,91,77]
def mdP(s:List UInt8):Bool:=if mdG s=true then Lib.hasPrefix s [27,91,60] && decide ((L3 (dgT s)).2=0)else true
def byA(s:List UInt8)(i:Int):Int:=((s.getD i.toNat 0).toNat:Int)
def mdN(s:List UInt8):Int:=if mdG s=true then l6 (L3 (dgT s)).1 0 0 else byA s 3-32
def mdC(s:List UInt8):Int:=if mdG s=true then l6 (L3 (dgT s)).1 1 0-1 else byA s 4-33
def mdR(s:List UInt8):Int:=if mdG s=true then l6 (L3 (dgT s)).1 2 0-1 else byA s 5-33
def mdL(s:List UInt8):Int:=byA s ((s.length:Int)-1)
def mdW(g:Bool)(n l:Int):Int:=if n / 64%2*64≠0 then 3 else if n / 32%2*32≠0 then 2 else if(g=true∧l=109)∨(g=false∧n%4=3)then 1 else 0
def mdV(s:List UInt8):Int:=mdW (mdG s) (mdN s) (mdL s)
def mdB(s:List UInt8):Bool:=mdP s && (decide (A3F 2 0 (mdN s / 4%8) (mdV s) (mdN s%4) (mdR s) (mdC s) []) && decide (moS (mdG s) (mdN s / 4%8) (mdV s) (mdN s%4) (mdR s) (mdC s)=s))
theorem C4w{s:List UInt8}(h:mdP s=false):mdB s=false:=by unfold mdB;rw[h];rfl
theorem A7i{s:List UInt8}{n w r c:Int}(e1:mdN s=n)(e2:mdV s=w)(e3:mdR s=r)(e4:mdC s=c)(h:¬A3F 2 0 (n / 4%8) w (n%4) r c []):mdB s=false:=by
 unfold mdB;rw[e1,e2,e3,e4,decide_eq_false h,X1,T9]
theorem A7h{s:List UInt8}{g:Bool}{n w r c:Int}(e0:mdG s=g)(e1:mdN s=n)(e2:mdV s=w)(e3:mdR s=r)(e4:mdC s=c)(h:moS g (n / 4%8) w (n%4) r c≠s):mdB s=false:=by
 unfold mdB;rw[e0,e1,e2,e3,e4,decide_eq_false h,T9,T9]
theorem B3s{s:List UInt8}{g:Bool}{n w r c:Int}(e0:mdG s=g)(e1:mdN s=n)(e2:mdV s=w)(e3:mdR s=r)(e4:mdC s=c)(hp:mdP s=true)(h2:A3F 2 0 (n / 4%8) w (n%4) r c [])(h:¬moS g (n / 4%8) w (n%4) r c≠s):mdB s=true:=by
 unfold mdB;rw[hp,e0,e1,e2,e3,e4,decide_eq_true h2,decide_eq_true (D6.1 h)];rfl
theorem A7j{p:Prop}[Decidable p](h:(if p then(0:Int)else 430)≠0):¬p:=fun k=>h (if_pos k)
theorem x9{p:Prop}[Decidable p](h:¬(if p then(0:Int)else 430)≠0):p:=by
 by_cases k:p
 ·exact k
 ·rw[if_neg k]at h;exact absurd (by decide) h
theorem A7z{s:List UInt8}(h:mdG s=true):mdN s=l6 (L3 (dgT s)).1 0 0∧mdC s=l6 (L3 (dgT s)).1 1 0-1∧mdR s=l6 (L3 (dgT s)).1 2 0-1:=⟨if_pos h,if_pos h,if_pos h⟩
theorem A70{s:List UInt8}(h:mdG s=false):mdN s=byA s 3-32∧mdC s=byA s 4-33∧mdR s=byA s 5-33:=⟨if_neg (by rw[h];decide),if_neg (by rw[h];decide),if_neg (by rw[h];decide)⟩
theorem w_3{s:List UInt8}{n:Int}(e:mdN s=n)(h:n / 64%2*64≠0):mdV s=3:=by unfold mdV mdW;rw[e,if_pos h]
theorem w_2{s:List UInt8}{n:Int}(e:mdN s=n)(h:¬n / 64%2*64≠0)(h2:n / 32%2*32≠0):mdV s=2:=by unfold mdV mdW;rw[e,if_neg h,if_pos h2]
theorem w_1{s:List UInt8}{n:Int}(e:mdN s=n)(h:¬n / 64%2*64≠0)(h2:¬n / 32%2*32≠0)(h3:(mdG s=true∧mdL s=109)∨(mdG s=false∧n%4=3)):mdV s=1:=by unfold mdV mdW;rw[e,if_neg h,if_neg h2,if_pos h3]
theorem w_0{s:List UInt8}{n:Int}(e:mdN s=n)(h:¬n / 64%2*64≠0)(h2:¬n / 32%2*32≠0)(h3:¬((mdG s=true∧mdL s=109)∨(mdG s=false∧n%4=3))):mdV s=0:=by unfold mdV mdW;rw[e,if_neg h,if_neg h2,if_neg h3]
theorem C74{s:List UInt8}(h:Lib.hasPrefix s [27,91,60]=true)(h4:4≤(s.length:Int)):1≤((Lib.trimPrefix s [27,91,60]).length:Int)∧((Lib.trimPrefix s [27,91,60]).length:Int)≤(s.length:Int):=by
 unfold Lib.trimPrefix;rw[if_pos h,C8];show 1≤(((s.length-3:Nat)):Int)∧(((s.length-3:Nat)):Int)≤_;omega
theorem l9{b1 b2 b3 b4 b5 b6 b7 a1 a2 a3 a4 a5 a6 a7:Int}{c d:Bool}{u t:List UInt8}(h1:a1=b1)(h2:a2=b2)(h3:a3=b3)(h4:a4=b4)(h5:a5=b5)(h6:a6=b6)(h7:a7=b7)(h8:u=t)(h9:c=d):[U.int .i64 a1,.int .i64 a2,.int .i64 a3,.int .i64 a4,.int .i64 a5,.int .i64 a6,.int .i64 a7,.str u,.bool c]=[U.int .i64 b1,.int .i64 b2,.int .i64 b3,.int .i64 b4,.int .i64 b5,.int .i64 b6,.int .i64 b7,.str t,.bool d]:=by rw[h1,h2,h3,h4,h5,h6,h7,h8,h9]
theorem C8_{z:Bool}(h:(!z)=false):z=true:=by cases z<;>first|rfl|cases h
noncomputable def C6T:List (FuncId×FnC):=(143,I9 Tryz.prog [.s 9] B0u [.s 11,.s 3])::(144,I9 Tryz.prog [.s 11,.s 3,.s 3] A13 [.s 3])::(13,I9 Tryz.prog [.a [3,3,3,3,3,3,3,9]] V0 [.s 3])::(51,I9 Tryz.prog [.a [8,8,8,8,8,8,8,8,8,8,8,3,8],.a [3,3,3,3,3,3,3,9]] S6 [.s 9])::(54,I9 Tryz.prog [.s 9,.s 9] y4 [.s 8])::(142,I9 Tryz.prog [.s 9,.s 9] B1S [.s 9,.s 8])::L0
theorem C1Y{G:Nat→Option Obj}(hst:B9 Tryz.prog G gl H0 n0):G4 Tryz.prog G gl C6T:=(.cons (C8x hst) (.cons (B53 hst) (.cons (C47 hst) (.cons (C5e hst) (.cons (B6o hst) (.cons (C92 hst) .nil))))))
def B0_:List U→Option (Nat×List U)
 | [.str s]=>if 3≤(s.length:Int)∧(Lib.hasPrefix s [27,91,60]=false∨4≤(s.length:Int))∧(Lib.hasPrefix s [27,91,77]=false∨6≤(s.length:Int))∧(s.length:Int)≤100000 then some (0,[.int .i64 (ifI (mdB s) 2),.int .i64 (0),.int .i64 (ifI (mdB s) (mdN s / 4%8)),.int .i64 (ifI (mdB s) (mdV s)),.int .i64 (ifI (mdB s) (mdN s%4)),.int .i64 (ifI (mdB s) (mdR s)),.int .i64 (ifI (mdB s) (mdC s)),.str ([]),.bool (mdB s)])else none
 | _=>none
theorem C2x(s:(List UInt8))(hc:3≤(s.length:Int)∧(Lib.hasPrefix s [27,91,60]=false∨4≤(s.length:Int))∧(Lib.hasPrefix s [27,91,77]=false∨6≤(s.length:Int))∧(s.length:Int)≤100000):B0_ [.str s]=some (0,[.int .i64 (ifI (mdB s) 2),.int .i64 (0),.int .i64 (ifI (mdB s) (mdN s / 4%8)),.int .i64 (ifI (mdB s) (mdV s)),.int .i64 (ifI (mdB s) (mdN s%4)),.int .i64 (ifI (mdB s) (mdR s)),.int .i64 (ifI (mdB s) (mdC s)),.str ([]),.bool (mdB s)]):=if_pos hc
def C45:Tr:=.fn y4 [h 0 9,.string ⟨⟨[27,91,77]⟩⟩] 1<|aX [h 1 8]<|aD [h 0 9]<|aS [h3 3,jI 1]<|.lt 4 (.idx) [h 0 9,h3 4]<|.br 2 (.fn B1S [h 0 9,.string ⟨⟨[27,91,60]⟩⟩] 2<|aX [h 7 8]<|.br 8 (.ret [jI 0,jI 0,jI 0,jI 0,jI 0,jI 0,jI 0,.string ⟨⟨[]⟩⟩,.bool false]) (aD [h 6 9]<|aS [h3 9,jI 1]<|.lt 9 (.sub) [h 6 9,jI 0,h3 10]<|.fn B0u [h 11 9] 2<|aN [h3 13,jI 0]<|.br 14 (.ret [jI 0,jI 0,jI 0,jI 0,jI 0,jI 0,jI 0,.string ⟨⟨[]⟩⟩,.bool false]) (.fn A13 [h 12 11,jI 0,jI 0] 1<|.fn A13 [h 12 11,jI 1,jI 0] 1<|aS [h3 16,jI 1]<|.fn A13 [h 12 11,jI 2,jI 0] 1<|aS [h3 18,jI 1]<|.lt 3 (.bin .and) [h3 15,jI 3]<|.lt 3 (.bin .shr) [h3 15,.int .u64 (2)]<|.lt 3 (.bin .and) [h3 21,jI 7]<|.lt 3 (.bin .and) [h3 15,jI 64]<|aN [h3 23,jI 0]<|.br 24 (.fn V0 [jI 2,jI 0,h3 22,jI 3,h3 20,h3 19,h3 17,.string ⟨⟨[]⟩⟩] 1<|aN [h3 25,jI 0]<|.br 26 (.ret [jI 0,jI 0,jI 0,jI 0,jI 0,jI 0,jI 0,.string ⟨⟨[]⟩⟩,.bool false]) (.fn S6 [.bool false,.bool false,.bool false,.bool false,.bool false,.bool false,.bool false,.bool false,.bool false,.bool false,.bool false,jI 1003,h 2 8,jI 2,jI 0,h3 22,jI 3,h3 20,h3 19,h3 17,.string ⟨⟨[]⟩⟩] 1<|aN [h 27 9,h 0 9]<|.br 28 (.ret [jI 0,jI 0,jI 0,jI 0,jI 0,jI 0,jI 0,.string ⟨⟨[]⟩⟩,.bool false]) (.ret [jI 2,jI 0,h3 22,jI 3,h3 20,h3 19,h3 17,.string ⟨⟨[]⟩⟩,.bool true]))) (.lt 3 (.bin .and) [h3 15,jI 32]<|aN [h3 25,jI 0]<|.br 26 (.fn V0 [jI 2,jI 0,h3 22,jI 2,h3 20,h3 19,h3 17,.string ⟨⟨[]⟩⟩] 1<|aN [h3 27,jI 0]<|.br 28 (.ret [jI 0,jI 0,jI 0,jI 0,jI 0,jI 0,jI 0,.string ⟨⟨[]⟩⟩,.bool false]) (.fn S6 [.bool false,.bool false,.bool false,.bool false,.bool false,.bool false,.bool false,.bool false,.bool false,.bool false,.bool false,jI 1003,h 2 8,jI 2,jI 0,h3 22,jI 2,h3 20,h3 19,h3 17,.string ⟨⟨[]⟩⟩] 1<|aN [h 29 9,h 0 9]<|.br 30 (.ret [jI 0,jI 0,jI 0,jI 0,jI 0,jI 0,jI 0,.string ⟨⟨[]⟩⟩,.bool false]) (.ret [jI 2,jI 0,h3 22,jI 2,h3 20,h3 19,h3 17,.string ⟨⟨[]⟩⟩,.bool true]))) (aE [h 5 4,.int .u8 (109)]<|.br 27 (.fn V0 [jI 2,jI 0,h3 22,jI 1,h3 20,h3 19,h3 17,.string ⟨⟨[]⟩⟩] 1<|aN [h3 28,jI 0]<|.br 29 (.ret [jI 0,jI 0,jI 0,jI 0,jI 0,jI 0,jI 0,.string ⟨⟨[]⟩⟩,.bool false]) (.fn S6 [.bool false,.bool false,.bool false,.bool false,.bool false,.bool false,.bool false,.bool false,.bool false,.bool false,.bool false,jI 1003,h 2 8,jI 2,jI 0,h3 22,jI 1,h3 20,h3 19,h3 17,.string ⟨⟨[]⟩⟩] 1<|aN [h 30 9,h 0 9]<|.br 31 (.ret [jI 0,jI 0,jI 0,jI 0,jI 0,jI 0,jI 0,.string ⟨⟨[]⟩⟩,.bool false]) (.ret [jI 2,jI 0,h3 22,jI 1,h3 20,h3 19,h3 17,.string ⟨⟨[]⟩⟩,.bool true]))) (aX [h 2 8]<|.br 28 (aE [h3 20,jI 3]<|.br 29 (.fn V0 [jI 2,jI 0,h3 22,jI 1,h3 20,h3 19,h3 17,.string ⟨⟨[]⟩⟩] 1<|aN [h3 30,jI 0]<|.br 31 (.ret [jI 0,jI 0,jI 0,jI 0,jI 0,jI 0,jI 0,.string ⟨⟨[]⟩⟩,.bool false]) (.fn S6 [.bool false,.bool false,.bool false,.bool false,.bool false,.bool false,.bool false,.bool false,.bool false,.bool false,.bool false,jI 1003,h 2 8,jI 2,jI 0,h3 22,jI 1,h3 20,h3 19,h3 17,.string ⟨⟨[]⟩⟩] 1<|aN [h 32 9,h 0 9]<|.br 33 (.ret [jI 0,jI 0,jI 0,jI 0,jI 0,jI 0,jI 0,.string ⟨⟨[]⟩⟩,.bool false]) (.ret [jI 2,jI 0,h3 22,jI 1,h3 20,h3 19,h3 17,.string ⟨⟨[]⟩⟩,.bool true]))) (.fn V0 [jI 2,jI 0,h3 22,jI 0,h3 20,h3 19,h3 17,.string ⟨⟨[]⟩⟩] 1<|aN [h3 30,jI 0]<|.br 31 (.ret [jI 0,jI 0,jI 0,jI 0,jI 0,jI 0,jI 0,.string ⟨⟨[]⟩⟩,.bool false]) (.fn S6 [.bool false,.bool false,.bool false,.bool false,.bool false,.bool false,.bool false,.bool false,.bool false,.bool false,.bool false,jI 1003,h 2 8,jI 2,jI 0,h3 22,jI 0,h3 20,h3 19,h3 17,.string ⟨⟨[]⟩⟩] 1<|aN [h 32 9,h 0 9]<|.br 33 (.ret [jI 0,jI 0,jI 0,jI 0,jI 0,jI 0,jI 0,.string ⟨⟨[]⟩⟩,.bool false]) (.ret [jI 2,jI 0,h3 22,jI 0,h3 20,h3 19,h3 17,.string ⟨⟨[]⟩⟩,.bool true])))) (.fn V0 [jI 2,jI 0,h3 22,jI 0,h3 20,h3 19,h3 17,.string ⟨⟨[]⟩⟩] 1<|aN [h3 29,jI 0]<|.br 30 (.ret [jI 0,jI 0,jI 0,jI 0,jI 0,jI 0,jI 0,.string ⟨⟨[]⟩⟩,.bool false]) (.fn S6 [.bool false,.bool false,.bool false,.bool false,.bool false,.bool false,.bool false,.bool false,.bool false,.bool false,.bool false,jI 1003,h 2 8,jI 2,jI 0,h3 22,jI 0,h3 20,h3 19,h3 17,.string ⟨⟨[]⟩⟩] 1<|aN [h 31 9,h 0 9]<|.br 32 (.ret [jI 0,jI 0,jI 0,jI 0,jI 0,jI 0,jI 0,.string ⟨⟨[]⟩⟩,.bool false]) (.ret [jI 2,jI 0,h3 22,jI 0,h3 20,h3 19,h3 17,.string ⟨⟨[]⟩⟩,.bool true]))))))))) (.lt 4 (.idx) [h 0 9,jI 3]<|.lt 3 (.conv .i64) [h 6 4]<|aS [h3 7,jI 32]<|.lt 4 (.idx) [h 0 9,jI 4]<|.lt 3 (.conv .i64) [h 9 4]<|aS [h3 10,jI 33]<|.lt 4 (.idx) [h 0 9,jI 5]<|.lt 3 (.conv .i64) [h 12 4]<|aS [h3 13,jI 33]<|.lt 3 (.bin .and) [h3 8,jI 3]<|.lt 3 (.bin .shr) [h3 8,.int .u64 (2)]<|.lt 3 (.bin .and) [h3 16,jI 7]<|.lt 3 (.bin .and) [h3 8,jI 64]<|aN [h3 18,jI 0]<|.br 19 (.fn V0 [jI 2,jI 0,h3 17,jI 3,h3 15,h3 14,h3 11,.string ⟨⟨[]⟩⟩] 1<|aN [h3 20,jI 0]<|.br 21 (.ret [jI 0,jI 0,jI 0,jI 0,jI 0,jI 0,jI 0,.string ⟨⟨[]⟩⟩,.bool false]) (.fn S6 [.bool false,.bool false,.bool false,.bool false,.bool false,.bool false,.bool false,.bool false,.bool false,.bool false,.bool false,jI 1003,h 2 8,jI 2,jI 0,h3 17,jI 3,h3 15,h3 14,h3 11,.string ⟨⟨[]⟩⟩] 1<|aN [h 22 9,h 0 9]<|.br 23 (.ret [jI 0,jI 0,jI 0,jI 0,jI 0,jI 0,jI 0,.string ⟨⟨[]⟩⟩,.bool false]) (.ret [jI 2,jI 0,h3 17,jI 3,h3 15,h3 14,h3 11,.string ⟨⟨[]⟩⟩,.bool true]))) (.lt 3 (.bin .and) [h3 8,jI 32]<|aN [h3 20,jI 0]<|.br 21 (.fn V0 [jI 2,jI 0,h3 17,jI 2,h3 15,h3 14,h3 11,.string ⟨⟨[]⟩⟩] 1<|aN [h3 22,jI 0]<|.br 23 (.ret [jI 0,jI 0,jI 0,jI 0,jI 0,jI 0,jI 0,.string ⟨⟨[]⟩⟩,.bool false]) (.fn S6 [.bool false,.bool false,.bool false,.bool false,.bool false,.bool false,.bool false,.bool false,.bool false,.bool false,.bool false,jI 1003,h 2 8,jI 2,jI 0,h3 17,jI 2,h3 15,h3 14,h3 11,.string ⟨⟨[]⟩⟩] 1<|aN [h 24 9,h 0 9]<|.br 25 (.ret [jI 0,jI 0,jI 0,jI 0,jI 0,jI 0,jI 0,.string ⟨⟨[]⟩⟩,.bool false]) (.ret [jI 2,jI 0,h3 17,jI 2,h3 15,h3 14,h3 11,.string ⟨⟨[]⟩⟩,.bool true]))) (aX [h 2 8]<|.br 22 (aE [h3 15,jI 3]<|.br 23 (.fn V0 [jI 2,jI 0,h3 17,jI 1,h3 15,h3 14,h3 11,.string ⟨⟨[]⟩⟩] 1<|aN [h3 24,jI 0]<|.br 25 (.ret [jI 0,jI 0,jI 0,jI 0,jI 0,jI 0,jI 0,.string ⟨⟨[]⟩⟩,.bool false]) (.fn S6 [.bool false,.bool false,.bool false,.bool false,.bool false,.bool false,.bool false,.bool false,.bool false,.bool false,.bool false,jI 1003,h 2 8,jI 2,jI 0,h3 17,jI 1,h3 15,h3 14,h3 11,.string ⟨⟨[]⟩⟩] 1<|aN [h 26 9,h 0 9]<|.br 27 (.ret [jI 0,jI 0,jI 0,jI 0,jI 0,jI 0,jI 0,.string ⟨⟨[]⟩⟩,.bool false]) (.ret [jI 2,jI 0,h3 17,jI 1,h3 15,h3 14,h3 11,.string ⟨⟨[]⟩⟩,.bool true]))) (.fn V0 [jI 2,jI 0,h3 17,jI 0,h3 15,h3 14,h3 11,.string ⟨⟨[]⟩⟩] 1<|aN [h3 24,jI 0]<|.br 25 (.ret [jI 0,jI 0,jI 0,jI 0,jI 0,jI 0,jI 0,.string ⟨⟨[]⟩⟩,.bool false]) (.fn S6 [.bool false,.bool false,.bool false,.bool false,.bool false,.bool false,.bool false,.bool false,.bool false,.bool false,.bool false,jI 1003,h 2 8,jI 2,jI 0,h3 17,jI 0,h3 15,h3 14,h3 11,.string ⟨⟨[]⟩⟩] 1<|aN [h 26 9,h 0 9]<|.br 27 (.ret [jI 0,jI 0,jI 0,jI 0,jI 0,jI 0,jI 0,.string ⟨⟨[]⟩⟩,.bool false]) (.ret [jI 2,jI 0,h3 17,jI 0,h3 15,h3 14,h3 11,.string ⟨⟨[]⟩⟩,.bool true])))) (.fn V0 [jI 2,jI 0,h3 17,jI 0,h3 15,h3 14,h3 11,.string ⟨⟨[]⟩⟩] 1<|aN [h3 23,jI 0]<|.br 24 (.ret [jI 0,jI 0,jI 0,jI 0,jI 0,jI 0,jI 0,.string ⟨⟨[]⟩⟩,.bool false]) (.fn S6 [.bool false,.bool false,.bool false,.bool false,.bool false,.bool false,.bool false,.bool false,.bool false,.bool false,.bool false,jI 1003,h 2 8,jI 2,jI 0,h3 17,jI 0,h3 15,h3 14,h3 11,.string ⟨⟨[]⟩⟩] 1<|aN [h 25 9,h 0 9]<|.br 26 (.ret [jI 0,jI 0,jI 0,jI 0,jI 0,jI 0,jI 0,.string ⟨⟨[]⟩⟩,.bool false]) (.ret [jI 2,jI 0,h3 17,jI 0,h3 15,h3 14,h3 11,.string ⟨⟨[]⟩⟩,.bool true]))))))
theorem C9R{G:Nat→Option Obj}(hst:B9 Tryz.prog G gl H0 n0):L2 Tryz.prog G 128 [.s 9] B0_ [.a [3,3,3,3,3,3,3,9],.s 8]:=by
 refine E7 (C:=cx C6T []) (d:=60) C45 (cxg (C1Y hst) .nil) hst ⟨Tryz.f128,_,Tryz.func128,rfl⟩ (by kernel_rfl) (by kernel_rfl) ?_;intro us outs hs;unfold B0_ at hs;split at hs
 ·skip;rename_i s;split at hs
  ·rename_i hc;cases hs;have zv:=fun i=>C8I (dgT s) i
   have zv0:=zv 0;have zv1:=zv 1;have zv2:=zv 2;unfold dgT at zv0 zv1 zv2;have zb3:(((s.getD (3:Int).toNat 0).toNat:Nat):Int)<256:=by have:=(s.getD (3:Int).toNat 0).toNat_lt;omega
   have zb4:(((s.getD (4:Int).toNat 0).toNat:Nat):Int)<256:=by have:=(s.getD (4:Int).toNat 0).toNat_lt;omega
   have zb5:(((s.getD (5:Int).toNat 0).toNat:Nat):Int)<256:=by have:=(s.getD (5:Int).toNat 0).toNat_lt;omega
   unfold C45;refine w0 (.cons 0 _ (.nil)) ?_;refine w31 y4 (e:=A8N s [27,91,77]) (k':=?_);first|refine m9 ?_|refine A3o ?_
   refine B3C ?_;first|refine l7 ?_|refine S1 ?_
   refine w1 (.idx) (e:=A9Z _ _ _ (by omega) (by omega)) (k':=?_);first|refine w4 (fun g0=>?_) (fun g0=>?_)|refine w4B (fun g0=>?_) (fun g0=>?_)
   ·refine w32 B1S (e:=C3V s [27,91,60]) (k':=?_);first|refine m9 ?_|refine A3o ?_
    first|refine w4 (fun g1=>?_) (fun g1=>?_)|refine w4B (fun g1=>?_) (fun g1=>?_)
    ·refine w7 [.int .i64 _,.int .i64 _,.int .i64 _,.int .i64 _,.int .i64 _,.int .i64 _,.int .i64 _,.str _,.bool _] ?_;have hG:mdG s=true:=(by first|exact g0|(simpa using g0));have hB:mdB s=false:=C4w (by unfold mdP;rw[if_pos hG,show Lib.hasPrefix s [27,91,60]=false from B5O g1];rfl);rw[hB];exact l9 rfl rfl rfl rfl rfl rfl rfl rfl rfl
    have z4:=hc.2.1.resolve_left (by have g:=A2P (by first|exact g1|(simpa using g1));rw[g];decide);have zt:=C74 (A2P (by first|exact g1|(simpa using g1))) z4;refine B3C ?_;first|refine l7 ?_|refine S1 ?_
    refine w1 (.sub) (e:=A8R _ _ _ _ _ (by omega) (by omega) (by omega)) (k':=?_);refine w32 B0u (e:=C2Y _) (k':=?_);refine A0k ?_;refine w4 (fun g2=>?_) fun g2=>?_
    ·refine w7 [.int .i64 _,.int .i64 _,.int .i64 _,.int .i64 _,.int .i64 _,.int .i64 _,.int .i64 _,.str _,.bool _] ?_;have hG:mdG s=true:=(by first|exact g0|(simpa using g0));have hB:mdB s=false:=C4w (by unfold mdP;rw[if_pos hG,show decide ((L3 (dgT s)).2=0)=false from decide_eq_false g2,T9]);rw[hB];exact l9 rfl rfl rfl rfl rfl rfl rfl rfl rfl
    refine w31 A13 (e:=B1r _ _ _ (by decide)) (k':=?_);refine w31 A13 (e:=B1r _ _ _ (by decide)) (k':=?_);first|refine l7 ?_|refine S1 ?_
    refine w31 A13 (e:=B1r _ _ _ (by decide)) (k':=?_);first|refine l7 ?_|refine S1 ?_
    refine w1 (.bin .and) (e:=A0A 2 4 (by decide) (by decide) (by decide)) (k':=?_);refine w1 (.bin .shr) (e:=A2E 4 (by decide) (by decide)) (k':=?_);refine w1 (.bin .and) (e:=A0A 3 8 (by decide) (by decide) (by decide)) (k':=?_);refine w1 (.bin .and) (e:=B4O _) (k':=?_);refine A0k ?_;refine w4 (fun g3=>?_) fun g3=>?_
    ·refine w31 V0 (e:=r7 _ _ _ _ _ _ _ _ ⟨by omega,by omega,by show(0:Int)≤_;omega⟩) (k':=?_);refine A0k ?_;refine w4 (fun g4=>?_) fun g4=>?_
     ·refine w7 [.int .i64 _,.int .i64 _,.int .i64 _,.int .i64 _,.int .i64 _,.int .i64 _,.int .i64 _,.str _,.bool _] ?_;have hG:mdG s=true:=(by first|exact g0|(simpa using g0));obtain⟨e1,e4,e3⟩:=A7z hG;have hp:mdP s=true:=by
       unfold mdP;rw[if_pos hG,show Lib.hasPrefix s [27,91,60]=true from A2P (by first|exact g1|(simpa using g1)),show decide ((L3 (dgT s)).2=0)=true from decide_eq_true (D6.1 g2)];rfl
      have e2:=w_3 e1 g3;have hB:=A7i e1 e2 e3 e4 (A7j g4);rw[hB];exact l9 rfl rfl rfl rfl rfl rfl rfl rfl rfl
     refine w31 S6 (e:=r9 _ _ _ _ _ _ _ _ _ _ _ _ _ _ _ _ _ _ _ _ _ (A2A (x9 g4) rfl)) (k':=?_);refine A6m ?_;refine w4 (fun g5=>?_) fun g5=>?_
     ·refine w7 [.int .i64 _,.int .i64 _,.int .i64 _,.int .i64 _,.int .i64 _,.int .i64 _,.int .i64 _,.str _,.bool _] ?_;have hG:mdG s=true:=(by first|exact g0|(simpa using g0));obtain⟨e1,e4,e3⟩:=A7z hG;have hp:mdP s=true:=by
       unfold mdP;rw[if_pos hG,show Lib.hasPrefix s [27,91,60]=true from A2P (by first|exact g1|(simpa using g1)),show decide ((L3 (dgT s)).2=0)=true from decide_eq_true (D6.1 g2)];rfl
      have e2:=w_3 e1 g3;have hB:=A7h hG e1 e2 e3 e4 (g:=true) (by first|exact g5|(rw[← hG];exact g5)|(simpa [mdG]using g5));rw[hB];exact l9 rfl rfl rfl rfl rfl rfl rfl rfl rfl
     refine w7 [.int .i64 _,.int .i64 _,.int .i64 _,.int .i64 _,.int .i64 _,.int .i64 _,.int .i64 _,.str _,.bool _] ?_;have hG:mdG s=true:=(by first|exact g0|(simpa using g0));obtain⟨e1,e4,e3⟩:=A7z hG;have hp:mdP s=true:=by
      unfold mdP;rw[if_pos hG,show Lib.hasPrefix s [27,91,60]=true from A2P (by first|exact g1|(simpa using g1)),show decide ((L3 (dgT s)).2=0)=true from decide_eq_true (D6.1 g2)];rfl
     have e2:=w_3 e1 g3;have hB:=B3s hG e1 e2 e3 e4 hp (x9 g4) (by first|exact g5|(rw[← hG];exact g5));rw[hB,e1,e2,e3,e4];exact l9 rfl rfl rfl rfl rfl rfl rfl rfl rfl
    refine w1 (.bin .and) (e:=B4P _) (k':=?_);refine A0k ?_;refine w4 (fun g4=>?_) fun g4=>?_
    ·refine w31 V0 (e:=r7 _ _ _ _ _ _ _ _ ⟨by omega,by omega,by show(0:Int)≤_;omega⟩) (k':=?_);refine A0k ?_;refine w4 (fun g5=>?_) fun g5=>?_
     ·refine w7 [.int .i64 _,.int .i64 _,.int .i64 _,.int .i64 _,.int .i64 _,.int .i64 _,.int .i64 _,.str _,.bool _] ?_;have hG:mdG s=true:=(by first|exact g0|(simpa using g0));obtain⟨e1,e4,e3⟩:=A7z hG;have hp:mdP s=true:=by
       unfold mdP;rw[if_pos hG,show Lib.hasPrefix s [27,91,60]=true from A2P (by first|exact g1|(simpa using g1)),show decide ((L3 (dgT s)).2=0)=true from decide_eq_true (D6.1 g2)];rfl
      have e2:=w_2 e1 g3 g4;have hB:=A7i e1 e2 e3 e4 (A7j g5);rw[hB];exact l9 rfl rfl rfl rfl rfl rfl rfl rfl rfl
     refine w31 S6 (e:=r9 _ _ _ _ _ _ _ _ _ _ _ _ _ _ _ _ _ _ _ _ _ (A2A (x9 g5) rfl)) (k':=?_);refine A6m ?_;refine w4 (fun g6=>?_) fun g6=>?_
     ·refine w7 [.int .i64 _,.int .i64 _,.int .i64 _,.int .i64 _,.int .i64 _,.int .i64 _,.int .i64 _,.str _,.bool _] ?_;have hG:mdG s=true:=(by first|exact g0|(simpa using g0));obtain⟨e1,e4,e3⟩:=A7z hG;have hp:mdP s=true:=by
       unfold mdP;rw[if_pos hG,show Lib.hasPrefix s [27,91,60]=true from A2P (by first|exact g1|(simpa using g1)),show decide ((L3 (dgT s)).2=0)=true from decide_eq_true (D6.1 g2)];rfl
      have e2:=w_2 e1 g3 g4;have hB:=A7h hG e1 e2 e3 e4 (g:=true) (by first|exact g6|(rw[← hG];exact g6)|(simpa [mdG]using g6));rw[hB];exact l9 rfl rfl rfl rfl rfl rfl rfl rfl rfl
     refine w7 [.int .i64 _,.int .i64 _,.int .i64 _,.int .i64 _,.int .i64 _,.int .i64 _,.int .i64 _,.str _,.bool _] ?_;have hG:mdG s=true:=(by first|exact g0|(simpa using g0));obtain⟨e1,e4,e3⟩:=A7z hG;have hp:mdP s=true:=by
      unfold mdP;rw[if_pos hG,show Lib.hasPrefix s [27,91,60]=true from A2P (by first|exact g1|(simpa using g1)),show decide ((L3 (dgT s)).2=0)=true from decide_eq_true (D6.1 g2)];rfl
     have e2:=w_2 e1 g3 g4;have hB:=B3s hG e1 e2 e3 e4 hp (x9 g5) (by first|exact g6|(rw[← hG];exact g6));rw[hB,e1,e2,e3,e4];exact l9 rfl rfl rfl rfl rfl rfl rfl rfl rfl
    refine N6 ?_;refine w4 (fun g5=>?_) fun g5=>?_
    ·refine w31 V0 (e:=r7 _ _ _ _ _ _ _ _ ⟨by omega,by omega,by show(0:Int)≤_;omega⟩) (k':=?_);refine A0k ?_;refine w4 (fun g6=>?_) fun g6=>?_
     ·refine w7 [.int .i64 _,.int .i64 _,.int .i64 _,.int .i64 _,.int .i64 _,.int .i64 _,.int .i64 _,.str _,.bool _] ?_;have hG:mdG s=true:=(by first|exact g0|(simpa using g0));obtain⟨e1,e4,e3⟩:=A7z hG;have hp:mdP s=true:=by
       unfold mdP;rw[if_pos hG,show Lib.hasPrefix s [27,91,60]=true from A2P (by first|exact g1|(simpa using g1)),show decide ((L3 (dgT s)).2=0)=true from decide_eq_true (D6.1 g2)];rfl
      have e2:=w_1 e1 g3 g4 (.inl ⟨hG,g5⟩);have hB:=A7i e1 e2 e3 e4 (A7j g6);rw[hB];exact l9 rfl rfl rfl rfl rfl rfl rfl rfl rfl
     refine w31 S6 (e:=r9 _ _ _ _ _ _ _ _ _ _ _ _ _ _ _ _ _ _ _ _ _ (A2A (x9 g6) rfl)) (k':=?_);refine A6m ?_;refine w4 (fun g7=>?_) fun g7=>?_
     ·refine w7 [.int .i64 _,.int .i64 _,.int .i64 _,.int .i64 _,.int .i64 _,.int .i64 _,.int .i64 _,.str _,.bool _] ?_;have hG:mdG s=true:=(by first|exact g0|(simpa using g0));obtain⟨e1,e4,e3⟩:=A7z hG;have hp:mdP s=true:=by
       unfold mdP;rw[if_pos hG,show Lib.hasPrefix s [27,91,60]=true from A2P (by first|exact g1|(simpa using g1)),show decide ((L3 (dgT s)).2=0)=true from decide_eq_true (D6.1 g2)];rfl
      have e2:=w_1 e1 g3 g4 (.inl ⟨hG,g5⟩);have hB:=A7h hG e1 e2 e3 e4 (g:=true) (by first|exact g7|(rw[← hG];exact g7)|(simpa [mdG]using g7));rw[hB];exact l9 rfl rfl rfl rfl rfl rfl rfl rfl rfl
     refine w7 [.int .i64 _,.int .i64 _,.int .i64 _,.int .i64 _,.int .i64 _,.int .i64 _,.int .i64 _,.str _,.bool _] ?_;have hG:mdG s=true:=(by first|exact g0|(simpa using g0));obtain⟨e1,e4,e3⟩:=A7z hG;have hp:mdP s=true:=by
      unfold mdP;rw[if_pos hG,show Lib.hasPrefix s [27,91,60]=true from A2P (by first|exact g1|(simpa using g1)),show decide ((L3 (dgT s)).2=0)=true from decide_eq_true (D6.1 g2)];rfl
     have e2:=w_1 e1 g3 g4 (.inl ⟨hG,g5⟩);have hB:=B3s hG e1 e2 e3 e4 hp (x9 g6) (by first|exact g7|(rw[← hG];exact g7));rw[hB,e1,e2,e3,e4];exact l9 rfl rfl rfl rfl rfl rfl rfl rfl rfl
    first|refine m9 ?_|refine A3o ?_
    first|refine w4 (fun g6=>?_) (fun g6=>?_)|refine w4B (fun g6=>?_) (fun g6=>?_)
    ·refine N6 ?_;refine w4 (fun g7=>?_) fun g7=>?_
     ·refine w31 V0 (e:=r7 _ _ _ _ _ _ _ _ ⟨by omega,by omega,by show(0:Int)≤_;omega⟩) (k':=?_);refine A0k ?_;refine w4 (fun g8=>?_) fun g8=>?_
      ·refine w7 [.int .i64 _,.int .i64 _,.int .i64 _,.int .i64 _,.int .i64 _,.int .i64 _,.int .i64 _,.str _,.bool _] ?_;exfalso;simp_all
      refine w31 S6 (e:=r9 _ _ _ _ _ _ _ _ _ _ _ _ _ _ _ _ _ _ _ _ _ (A2A (x9 g8) rfl)) (k':=?_);refine A6m ?_;refine w4 (fun g9=>?_) fun g9=>?_
      ·refine w7 [.int .i64 _,.int .i64 _,.int .i64 _,.int .i64 _,.int .i64 _,.int .i64 _,.int .i64 _,.str _,.bool _] ?_;exfalso;simp_all
      refine w7 [.int .i64 _,.int .i64 _,.int .i64 _,.int .i64 _,.int .i64 _,.int .i64 _,.int .i64 _,.str _,.bool _] ?_;exfalso;simp_all
     refine w31 V0 (e:=r7 _ _ _ _ _ _ _ _ ⟨by omega,by omega,by show(0:Int)≤_;omega⟩) (k':=?_);refine A0k ?_;refine w4 (fun g8=>?_) fun g8=>?_
     ·refine w7 [.int .i64 _,.int .i64 _,.int .i64 _,.int .i64 _,.int .i64 _,.int .i64 _,.int .i64 _,.str _,.bool _] ?_;exfalso;simp_all
     refine w31 S6 (e:=r9 _ _ _ _ _ _ _ _ _ _ _ _ _ _ _ _ _ _ _ _ _ (A2A (x9 g8) rfl)) (k':=?_);refine A6m ?_;refine w4 (fun g9=>?_) fun g9=>?_
     ·refine w7 [.int .i64 _,.int .i64 _,.int .i64 _,.int .i64 _,.int .i64 _,.int .i64 _,.int .i64 _,.str _,.bool _] ?_;exfalso;simp_all
     refine w7 [.int .i64 _,.int .i64 _,.int .i64 _,.int .i64 _,.int .i64 _,.int .i64 _,.int .i64 _,.str _,.bool _] ?_;exfalso;simp_all
    refine w31 V0 (e:=r7 _ _ _ _ _ _ _ _ ⟨by omega,by omega,by show(0:Int)≤_;omega⟩) (k':=?_);refine A0k ?_;refine w4 (fun g7=>?_) fun g7=>?_
    ·refine w7 [.int .i64 _,.int .i64 _,.int .i64 _,.int .i64 _,.int .i64 _,.int .i64 _,.int .i64 _,.str _,.bool _] ?_;have hG:mdG s=true:=(by first|exact g0|(simpa using g0));obtain⟨e1,e4,e3⟩:=A7z hG;have hp:mdP s=true:=by
      unfold mdP;rw[if_pos hG,show Lib.hasPrefix s [27,91,60]=true from A2P (by first|exact g1|(simpa using g1)),show decide ((L3 (dgT s)).2=0)=true from decide_eq_true (D6.1 g2)];rfl
     have e2:=w_0 e1 g3 g4 (fun h=>h.elim (fun h=>g5 h.2) (fun h=>by rw[hG]at h;exact absurd h.1 (by decide)));have hB:=A7i e1 e2 e3 e4 (A7j g7);rw[hB];exact l9 rfl rfl rfl rfl rfl rfl rfl rfl rfl
    refine w31 S6 (e:=r9 _ _ _ _ _ _ _ _ _ _ _ _ _ _ _ _ _ _ _ _ _ (A2A (x9 g7) rfl)) (k':=?_);refine A6m ?_;refine w4 (fun g8=>?_) fun g8=>?_
    ·refine w7 [.int .i64 _,.int .i64 _,.int .i64 _,.int .i64 _,.int .i64 _,.int .i64 _,.int .i64 _,.str _,.bool _] ?_;have hG:mdG s=true:=(by first|exact g0|(simpa using g0));obtain⟨e1,e4,e3⟩:=A7z hG;have hp:mdP s=true:=by
      unfold mdP;rw[if_pos hG,show Lib.hasPrefix s [27,91,60]=true from A2P (by first|exact g1|(simpa using g1)),show decide ((L3 (dgT s)).2=0)=true from decide_eq_true (D6.1 g2)];rfl
     have e2:=w_0 e1 g3 g4 (fun h=>h.elim (fun h=>g5 h.2) (fun h=>by rw[hG]at h;exact absurd h.1 (by decide)));have hB:=A7h hG e1 e2 e3 e4 (g:=true) (by first|exact g8|(rw[← hG];exact g8)|(simpa [mdG]using g8));rw[hB];exact l9 rfl rfl rfl rfl rfl rfl rfl rfl rfl
    refine w7 [.int .i64 _,.int .i64 _,.int .i64 _,.int .i64 _,.int .i64 _,.int .i64 _,.int .i64 _,.str _,.bool _] ?_;have hG:mdG s=true:=(by first|exact g0|(simpa using g0));obtain⟨e1,e4,e3⟩:=A7z hG;have hp:mdP s=true:=by
     unfold mdP;rw[if_pos hG,show Lib.hasPrefix s [27,91,60]=true from A2P (by first|exact g1|(simpa using g1)),show decide ((L3 (dgT s)).2=0)=true from decide_eq_true (D6.1 g2)];rfl
    have e2:=w_0 e1 g3 g4 (fun h=>h.elim (fun h=>g5 h.2) (fun h=>by rw[hG]at h;exact absurd h.1 (by decide)));have hB:=B3s hG e1 e2 e3 e4 hp (x9 g7) (by first|exact g8|(rw[← hG];exact g8));rw[hB,e1,e2,e3,e4];exact l9 rfl rfl rfl rfl rfl rfl rfl rfl rfl
   have z6:=hc.2.2.1.resolve_left (by have g:=C8_ g0;rw[g];decide);refine w1 (.idx) (e:=A9Z _ _ _ (by omega) (by omega)) (k':=?_);first|refine t8 ?_|refine Y6 ?_
   first|refine l7 ?_|refine S1 ?_
   refine w1 (.idx) (e:=A9Z _ _ _ (by omega) (by omega)) (k':=?_);first|refine t8 ?_|refine Y6 ?_
   first|refine l7 ?_|refine S1 ?_
   refine w1 (.idx) (e:=A9Z _ _ _ (by omega) (by omega)) (k':=?_);first|refine t8 ?_|refine Y6 ?_
   first|refine l7 ?_|refine S1 ?_
   refine w1 (.bin .and) (e:=A0A 2 4 (by decide) (by decide) (by decide)) (k':=?_);refine w1 (.bin .shr) (e:=A2E 4 (by decide) (by decide)) (k':=?_);refine w1 (.bin .and) (e:=A0A 3 8 (by decide) (by decide) (by decide)) (k':=?_);refine w1 (.bin .and) (e:=B4O _) (k':=?_);refine A0k ?_;refine w4 (fun g1=>?_) fun g1=>?_
   ·refine w31 V0 (e:=r7 _ _ _ _ _ _ _ _ ⟨by omega,by omega,by show(0:Int)≤_;omega⟩) (k':=?_);refine A0k ?_;refine w4 (fun g2=>?_) fun g2=>?_
    ·refine w7 [.int .i64 _,.int .i64 _,.int .i64 _,.int .i64 _,.int .i64 _,.int .i64 _,.int .i64 _,.str _,.bool _] ?_;have hG:mdG s=false:=(by first|exact g0|(simpa using g0));obtain⟨e1,e4,e3⟩:=A70 hG;have hp:mdP s=true:=by unfold mdP;rw[if_neg (by rw[hG];decide)]
     have e2:=w_3 e1 g1;have hB:=A7i e1 e2 e3 e4 (A7j g2);rw[hB];exact l9 rfl rfl rfl rfl rfl rfl rfl rfl rfl
    refine w31 S6 (e:=r9 _ _ _ _ _ _ _ _ _ _ _ _ _ _ _ _ _ _ _ _ _ (A2A (x9 g2) rfl)) (k':=?_);refine A6m ?_;refine w4 (fun g3=>?_) fun g3=>?_
    ·refine w7 [.int .i64 _,.int .i64 _,.int .i64 _,.int .i64 _,.int .i64 _,.int .i64 _,.int .i64 _,.str _,.bool _] ?_;have hG:mdG s=false:=(by first|exact g0|(simpa using g0));obtain⟨e1,e4,e3⟩:=A70 hG;have hp:mdP s=true:=by unfold mdP;rw[if_neg (by rw[hG];decide)]
     have e2:=w_3 e1 g1;have hB:=A7h hG e1 e2 e3 e4 (g:=false) (by first|exact g3|(rw[← hG];exact g3)|(simpa [mdG]using g3));rw[hB];exact l9 rfl rfl rfl rfl rfl rfl rfl rfl rfl
    refine w7 [.int .i64 _,.int .i64 _,.int .i64 _,.int .i64 _,.int .i64 _,.int .i64 _,.int .i64 _,.str _,.bool _] ?_;have hG:mdG s=false:=(by first|exact g0|(simpa using g0));obtain⟨e1,e4,e3⟩:=A70 hG;have hp:mdP s=true:=by unfold mdP;rw[if_neg (by rw[hG];decide)]
    have e2:=w_3 e1 g1;have hB:=B3s hG e1 e2 e3 e4 hp (x9 g2) (by first|exact g3|(rw[← hG];exact g3));rw[hB,e1,e2,e3,e4];exact l9 rfl rfl rfl rfl rfl rfl rfl rfl rfl
   refine w1 (.bin .and) (e:=B4P _) (k':=?_);refine A0k ?_;refine w4 (fun g2=>?_) fun g2=>?_
   ·refine w31 V0 (e:=r7 _ _ _ _ _ _ _ _ ⟨by omega,by omega,by show(0:Int)≤_;omega⟩) (k':=?_);refine A0k ?_;refine w4 (fun g3=>?_) fun g3=>?_
    ·refine w7 [.int .i64 _,.int .i64 _,.int .i64 _,.int .i64 _,.int .i64 _,.int .i64 _,.int .i64 _,.str _,.bool _] ?_;have hG:mdG s=false:=(by first|exact g0|(simpa using g0));obtain⟨e1,e4,e3⟩:=A70 hG;have hp:mdP s=true:=by unfold mdP;rw[if_neg (by rw[hG];decide)]
     have e2:=w_2 e1 g1 g2;have hB:=A7i e1 e2 e3 e4 (A7j g3);rw[hB];exact l9 rfl rfl rfl rfl rfl rfl rfl rfl rfl
    refine w31 S6 (e:=r9 _ _ _ _ _ _ _ _ _ _ _ _ _ _ _ _ _ _ _ _ _ (A2A (x9 g3) rfl)) (k':=?_);refine A6m ?_;refine w4 (fun g4=>?_) fun g4=>?_
    ·refine w7 [.int .i64 _,.int .i64 _,.int .i64 _,.int .i64 _,.int .i64 _,.int .i64 _,.int .i64 _,.str _,.bool _] ?_;have hG:mdG s=false:=(by first|exact g0|(simpa using g0));obtain⟨e1,e4,e3⟩:=A70 hG;have hp:mdP s=true:=by unfold mdP;rw[if_neg (by rw[hG];decide)]
     have e2:=w_2 e1 g1 g2;have hB:=A7h hG e1 e2 e3 e4 (g:=false) (by first|exact g4|(rw[← hG];exact g4)|(simpa [mdG]using g4));rw[hB];exact l9 rfl rfl rfl rfl rfl rfl rfl rfl rfl
    refine w7 [.int .i64 _,.int .i64 _,.int .i64 _,.int .i64 _,.int .i64 _,.int .i64 _,.int .i64 _,.str _,.bool _] ?_;have hG:mdG s=false:=(by first|exact g0|(simpa using g0));obtain⟨e1,e4,e3⟩:=A70 hG;have hp:mdP s=true:=by unfold mdP;rw[if_neg (by rw[hG];decide)]
    have e2:=w_2 e1 g1 g2;have hB:=B3s hG e1 e2 e3 e4 hp (x9 g3) (by first|exact g4|(rw[← hG];exact g4));rw[hB,e1,e2,e3,e4];exact l9 rfl rfl rfl rfl rfl rfl rfl rfl rfl
   first|refine m9 ?_|refine A3o ?_
   first|refine w4 (fun g3=>?_) (fun g3=>?_)|refine w4B (fun g3=>?_) (fun g3=>?_)
   ·refine N6 ?_;refine w4 (fun g4=>?_) fun g4=>?_
    ·refine w31 V0 (e:=r7 _ _ _ _ _ _ _ _ ⟨by omega,by omega,by show(0:Int)≤_;omega⟩) (k':=?_);refine A0k ?_;refine w4 (fun g5=>?_) fun g5=>?_
     ·refine w7 [.int .i64 _,.int .i64 _,.int .i64 _,.int .i64 _,.int .i64 _,.int .i64 _,.int .i64 _,.str _,.bool _] ?_;have hG:mdG s=false:=(by first|exact g0|(simpa using g0));obtain⟨e1,e4,e3⟩:=A70 hG;have hp:mdP s=true:=by unfold mdP;rw[if_neg (by rw[hG];decide)]
      have e2:=w_1 e1 g1 g2 (.inr ⟨hG,g4⟩);have hB:=A7i e1 e2 e3 e4 (A7j g5);rw[hB];exact l9 rfl rfl rfl rfl rfl rfl rfl rfl rfl
     refine w31 S6 (e:=r9 _ _ _ _ _ _ _ _ _ _ _ _ _ _ _ _ _ _ _ _ _ (A2A (x9 g5) rfl)) (k':=?_);refine A6m ?_;refine w4 (fun g6=>?_) fun g6=>?_
     ·refine w7 [.int .i64 _,.int .i64 _,.int .i64 _,.int .i64 _,.int .i64 _,.int .i64 _,.int .i64 _,.str _,.bool _] ?_;have hG:mdG s=false:=(by first|exact g0|(simpa using g0));obtain⟨e1,e4,e3⟩:=A70 hG;have hp:mdP s=true:=by unfold mdP;rw[if_neg (by rw[hG];decide)]
      have e2:=w_1 e1 g1 g2 (.inr ⟨hG,g4⟩);have hB:=A7h hG e1 e2 e3 e4 (g:=false) (by first|exact g6|(rw[← hG];exact g6)|(simpa [mdG]using g6));rw[hB];exact l9 rfl rfl rfl rfl rfl rfl rfl rfl rfl
     refine w7 [.int .i64 _,.int .i64 _,.int .i64 _,.int .i64 _,.int .i64 _,.int .i64 _,.int .i64 _,.str _,.bool _] ?_;have hG:mdG s=false:=(by first|exact g0|(simpa using g0));obtain⟨e1,e4,e3⟩:=A70 hG;have hp:mdP s=true:=by unfold mdP;rw[if_neg (by rw[hG];decide)]
     have e2:=w_1 e1 g1 g2 (.inr ⟨hG,g4⟩);have hB:=B3s hG e1 e2 e3 e4 hp (x9 g5) (by first|exact g6|(rw[← hG];exact g6));rw[hB,e1,e2,e3,e4];exact l9 rfl rfl rfl rfl rfl rfl rfl rfl rfl
    refine w31 V0 (e:=r7 _ _ _ _ _ _ _ _ ⟨by omega,by omega,by show(0:Int)≤_;omega⟩) (k':=?_);refine A0k ?_;refine w4 (fun g5=>?_) fun g5=>?_
    ·refine w7 [.int .i64 _,.int .i64 _,.int .i64 _,.int .i64 _,.int .i64 _,.int .i64 _,.int .i64 _,.str _,.bool _] ?_;have hG:mdG s=false:=(by first|exact g0|(simpa using g0));obtain⟨e1,e4,e3⟩:=A70 hG;have hp:mdP s=true:=by unfold mdP;rw[if_neg (by rw[hG];decide)]
     have e2:=w_0 e1 g1 g2 (fun h=>h.elim (fun h=>by rw[hG]at h;exact absurd h.1 (by decide)) (fun h=>g4 h.2));have hB:=A7i e1 e2 e3 e4 (A7j g5);rw[hB];exact l9 rfl rfl rfl rfl rfl rfl rfl rfl rfl
    refine w31 S6 (e:=r9 _ _ _ _ _ _ _ _ _ _ _ _ _ _ _ _ _ _ _ _ _ (A2A (x9 g5) rfl)) (k':=?_);refine A6m ?_;refine w4 (fun g6=>?_) fun g6=>?_
    ·refine w7 [.int .i64 _,.int .i64 _,.int .i64 _,.int .i64 _,.int .i64 _,.int .i64 _,.int .i64 _,.str _,.bool _] ?_;have hG:mdG s=false:=(by first|exact g0|(simpa using g0));obtain⟨e1,e4,e3⟩:=A70 hG;have hp:mdP s=true:=by unfold mdP;rw[if_neg (by rw[hG];decide)]
     have e2:=w_0 e1 g1 g2 (fun h=>h.elim (fun h=>by rw[hG]at h;exact absurd h.1 (by decide)) (fun h=>g4 h.2));have hB:=A7h hG e1 e2 e3 e4 (g:=false) (by first|exact g6|(rw[← hG];exact g6)|(simpa [mdG]using g6));rw[hB];exact l9 rfl rfl rfl rfl rfl rfl rfl rfl rfl
    refine w7 [.int .i64 _,.int .i64 _,.int .i64 _,.int .i64 _,.int .i64 _,.int .i64 _,.int .i64 _,.str _,.bool _] ?_;have hG:mdG s=false:=(by first|exact g0|(simpa using g0));obtain⟨e1,e4,e3⟩:=A70 hG;have hp:mdP s=true:=by unfold mdP;rw[if_neg (by rw[hG];decide)]
    have e2:=w_0 e1 g1 g2 (fun h=>h.elim (fun h=>by rw[hG]at h;exact absurd h.1 (by decide)) (fun h=>g4 h.2));have hB:=B3s hG e1 e2 e3 e4 hp (x9 g5) (by first|exact g6|(rw[← hG];exact g6));rw[hB,e1,e2,e3,e4];exact l9 rfl rfl rfl rfl rfl rfl rfl rfl rfl
   refine w31 V0 (e:=r7 _ _ _ _ _ _ _ _ ⟨by omega,by omega,by show(0:Int)≤_;omega⟩) (k':=?_);refine A0k ?_;refine w4 (fun g4=>?_) fun g4=>?_
   ·refine w7 [.int .i64 _,.int .i64 _,.int .i64 _,.int .i64 _,.int .i64 _,.int .i64 _,.int .i64 _,.str _,.bool _] ?_;exfalso;simp_all
   refine w31 S6 (e:=r9 _ _ _ _ _ _ _ _ _ _ _ _ _ _ _ _ _ _ _ _ _ (A2A (x9 g4) rfl)) (k':=?_);refine A6m ?_;refine w4 (fun g5=>?_) fun g5=>?_
   ·refine w7 [.int .i64 _,.int .i64 _,.int .i64 _,.int .i64 _,.int .i64 _,.int .i64 _,.int .i64 _,.str _,.bool _] ?_;exfalso;simp_all
   refine w7 [.int .i64 _,.int .i64 _,.int .i64 _,.int .i64 _,.int .i64 _,.int .i64 _,.int .i64 _,.str _,.bool _] ?_;exfalso;simp_all
  ·cases hs
 ·cases hs
def sfX(p u:Option (List Int)):Bool:=decide (((el u).length:Int)≤((el p).length:Int)) && decide (iB (el (K4 p (((el p).length:Int)-(el u).length).toNat ((el p).length:Int).toNat))=iB (el u))
def sfP(p u:Option (List Int)):Option (List Int):=if sfX p u=true then K4 p (0:Int).toNat (((el p).length:Int)-(el u).length).toNat else p
theorem D0Y{p u:Option (List Int)}(h:¬((el p).length:Int)≥(el u).length):sfX p u=false:=by unfold sfX;rw[decide_eq_false (by omega),X1]
theorem D0X{p u:Option (List Int)}(h:iB (el (K4 p (((el p).length:Int)-(el u).length).toNat ((el p).length:Int).toNat))≠iB (el u)):sfX p u=false:=by unfold sfX;rw[decide_eq_false h,T9]
theorem D0W{p u:Option (List Int)}(h0:((el p).length:Int)≥(el u).length)(h:iB (el (K4 p (((el p).length:Int)-(el u).length).toNat ((el p).length:Int).toNat))=iB (el u)):sfX p u=true:=by unfold sfX;rw[decide_eq_true (by omega),decide_eq_true h];rfl
theorem C60{p u:Option (List Int)}{b:Bool}{x:Option (List Int)}(h:sfX p u=b)(hx:x=if b=true then K4 p (0:Int).toNat (((el p).length:Int)-(el u).length).toNat else p):[A8 rB x,U.bool b]=[A8 rB (sfP p u),U.bool (sfX p u)]:=by
 unfold sfP;rw[h,hx]
theorem A4X{p:Option (List Int)}{i j:Nat}(h:∀ x ∈ el p,0≤x∧x<256):∀ x ∈ el (K4 p i j),0≤x∧x<256:=fun x hx=>by
 rw[K0]at hx;exact h x (K2 (O2 hx))
noncomputable def C6f:List (FuncId×FnC):=L0
theorem C1k{G:Nat→Option Obj}(hst:B9 Tryz.prog G gl H0 n0):G4 Tryz.prog G gl C6f:=.nil
def A9k:List U→Option (Nat×List U)
 | [u_p,u_u]=>(J9 rB u_p).bind fun p=>(J9 rB u_u).bind fun u=>if((el p).length:Int)≤100000000∧((el u).length:Int)≤100000000∧(∀ x ∈ el p,0≤x∧x<256)∧(∀ x ∈ el u,0≤x∧x<256)then some (0,[A8 rB (sfP p u),.bool (sfX p u)])else none
 | _=>none
theorem C3U(p:(Option (List Int)))(u:(Option (List Int)))(hc:((el p).length:Int)≤100000000∧((el u).length:Int)≤100000000∧(∀ x ∈ el p,0≤x∧x<256)∧(∀ x ∈ el u,0≤x∧x<256)):A9k [A8 rB p,A8 rB u]=some (0,[A8 rB (sfP p u),.bool (sfX p u)]):=by
 simp only[A9k,G1,D4];exact if_pos hc
def C5m:Tr:=aD [h 0 11]<|aD [h 1 11]<|aH [h3 2,h3 3]<|.br 4 (aS [h3 2,h3 3]<|.dt 11 (.subs 1) [h 0 11,h3 5,h3 2]<|.lt 9 (.str) [h 6 11]<|.lt 9 (.str) [h 1 11]<|aE [h 7 9,h 8 9]<|aX [h 9 8]<|.br 10 (.ret [h 0 11,.bool false]) (aS [h3 2,h3 3]<|.dt 11 (.subs 1) [h 0 11,jI 0,h3 11]<|.ret [h 12 11,.bool true])) (.ret [h 0 11,.bool false])
theorem C91{G:Nat→Option Obj}(hst:B9 Tryz.prog G gl H0 n0):L2 Tryz.prog G 145 [.s 11,.s 11] A9k [.s 11,.s 8]:=by
 refine E7 (C:=cx C6f []) (d:=60) C5m (cxg (C1k hst) .nil) hst ⟨Tryz.f145,_,Tryz.func145,rfl⟩ (by kernel_rfl) (by kernel_rfl) ?_;intro us outs hs;unfold A9k at hs;split at hs
 ·skip;rename_i u_p u_u;have hq_p:=A6.1 hs;clear hs;obtain⟨p,hd_p,hs⟩:=hq_p;replace hd_p:=F2 hd_p;subst hd_p;have hq_u:=A6.1 hs;clear hs;obtain⟨u,hd_u,hs⟩:=hq_u;replace hd_u:=F2 hd_u;subst hd_u;split at hs
  ·rename_i hc;cases hs;unfold C5m;refine w0 (.cons 1 _ (.cons 0 _ (.nil))) ?_;refine R2 ?_;refine R2 ?_;refine A2d ?_;refine w5 (fun g0=>?_) fun g0=>?_
   ·refine w7 [A8 rB _,.bool _] ?_;exact C60 (D0Y g0) rfl
   first|refine l7 ?_|refine S1 ?_
   refine w2 (.subs 1) (r:=rB) (e:=I8 rfl (by omega) (by omega) (by omega)) (k':=?_);refine w1 (.str) (e:=r8 rfl (by first|exact A4X hc.2.2.1|exact hc.2.2.2)) (k':=?_);refine w1 (.str) (e:=r8 rfl (by first|exact A4X hc.2.2.1|exact hc.2.2.2)) (k':=?_);refine C2B ?_;refine m9 ?_;refine w4 (fun g1=>?_) fun g1=>?_
   ·refine w7 [A8 rB _,.bool _] ?_;exact C60 (D0X (by first|exact g1|(simpa using g1))) rfl
   first|refine l7 ?_|refine S1 ?_
   refine w2 (.subs 1) (r:=rB) (e:=I8 rfl (by omega) (by omega) (by omega)) (k':=?_);refine w7 [A8 rB _,.bool _] ?_;exact C60 (D0W g0 (by first|exact g1|(simpa using g1))) rfl
  ·cases hs
 ·cases hs
def rmE(s:List UInt8):List UInt8:=s.filter (fun b=>!(b == 27))
theorem B9A:∀ s:List UInt8,Lib.replaceK [27] [] (s.count 27) s=rmE s
 | []=>rfl
 | b::r=>by
   have ih:=B9A r;by_cases hb:b=27
   ·subst hb;have h0:Lib.index (27::r) [27]=((0:Nat):Int):=by rw[Lib.index_one];rfl
    rw[List.count_cons_self,Lib.replaceK_hit [27] [] _ _ 0 h0];show[]++[]++Lib.replaceK [27] [] (r.count 27) r=_;rw[ih];rfl
   ·have hb':(b == 27)=false:=by simpa using hb
    have e:rmE (b::r)=b::rmE r:=by unfold rmE;rw[List.filter_cons_of_pos (by simp[hb'])]
    have hc:(b::r).count 27=r.count 27:=by rw[List.count_cons,hb'];simp
    rw[hc,e,← ih];cases hk:r.count 27 with
    | zero=>rfl
    | succ k =>
      obtain⟨i,hi⟩:=Lib.index_of_count (s:=r) (old:=[27]) (by rw[Lib.count_one,hk];omega);have hi':Lib.index (b::r) [27]=((i+1:Nat):Int):=by
       have hp:([27]:List UInt8).isPrefixOf (b::r)=false:=by
        show((27:UInt8) == b && _)=false;have:((27:UInt8) == b)=false:=by simpa using fun h:(27:UInt8)=b=>hb h.symm
        rw[this];rfl
       have hm:¬ ((i:Int) == -1)=true:=fun h=>by have:=beq_iff_eq.1 h;omega
       rw[Lib.index,hp,hi];simp only[I2,if_false];rw[if_neg hm];omega
      rw[Lib.replaceK_hit [27] [] k _ _ hi',Lib.replaceK_hit [27] [] k r i hi];rfl
theorem C6_(s:List UInt8):Lib.replaceAll s [27] []=rmE s:=by
 unfold Lib.replaceAll Lib.replace;rw[if_neg (by decide)];have:Lib.replaceNum s [27] (-1)=s.count 27:=by unfold Lib.replaceNum;rw[if_pos (.inl (by decide)),Lib.count_one]
 rw[this,B9A]
def A51:List U→Option (Nat×List U)
 | [.str s,.str u,.str v]=>if s.length≤100000000∧u=[27]∧v=[]then some (0,[.str (rmE s)])else none
 | _=>none
theorem B6H(s:(List UInt8))(u:(List UInt8))(v:(List UInt8))(hc:s.length≤100000000∧u=[27]∧v=[]):A51 [.str s,.str u,.str v]=some (0,[.str (rmE s)]):=if_pos hc
theorem C4Y{G:Nat→Option Obj}(hst:B9 Tryz.prog G gl H0 n0):L2 Tryz.prog G 29 [.s 9,.s 9,.s 9] A51 [.s 9]:=by
 intro us outs w vs R hsh hs hG hR;unfold A51 at hs;split at hs
 ·skip;rename_i s u v;split at hs
  ·rename_i hc;cases hs;have hv:=V3 (vs2:=[.string ⟨⟨s⟩⟩,.string ⟨⟨u⟩⟩,.string ⟨⟨v⟩⟩]) hsh rfl;subst hv;refine A3K (vr:=[.string ⟨⟨rmE s⟩⟩]) Tryz.func29 rfl (by kernel_rfl) rfl ?_;obtain⟨hl,rfl,rfl⟩:=hc;have hl2:ByteArray.size ⟨⟨s⟩⟩=s.length:=rfl;refine(Tryz.strings_ReplaceAll_shaped ⟨⟨s⟩⟩ ⟨⟨[27]⟩⟩ ⟨⟨[]⟩⟩ w (A3T hst hG) (by omega) (by decide) (by show _+_*0≤_;omega)).mono fun e w' ⟨h1,h2⟩=>⟨?_,h2⟩
   rw[show Lib.replaceAll (ByteArray.mk (Array.mk s)).data.toList (ByteArray.mk (Array.mk [27])).data.toList (ByteArray.mk (Array.mk [])).data.toList=rmE s from C6_ s]at h1;exact h1
  ·cases hs
 ·cases hs
theorem D0h{l:List Int}(h:knd l=2):S9 (l.getD 0 0)=(l.length:Int)∧okT (l.drop 1) (loB (l.getD 0 0)) (hiB (l.getD 0 0))=true:=by
 unfold knd at h;split at h
 ·omega
 ·split at h
  ·rename_i h2;split at h
   ·omega
   ·exact⟨by omega,h2⟩
  ·omega
theorem D0e{a lo hi:Int}{r:List Int}(h:okT (a::r) lo hi=true):lo≤a∧a≤hi∧okT r 128 191=true:=by
 have h:(decide (lo≤a∧a≤hi) && okT r 128 191)=true:=h;obtain⟨h1,h2⟩:=L7 h
 have:=of_decide_eq_true h1;exact⟨this.1,this.2,h2⟩
theorem C0n{l:List Int}(hb:∀ x ∈ l,0≤x∧x<256)(h:knd l=2):0≤A1s l∧A1s l≤1114111:=by
 obtain⟨h1,h2⟩:=D0h h
 match l,hb,h1,h2 with
 | [],_,h1,_ =>
   have h1:S9 0=0:=h1;exact absurd h1 (by decide)
 | [a],hb,h1,_ =>
   have h1:S9 a=1:=h1
   have:=hb a (by simp);have e:A1s [a]=a:=rfl;rw[e];omega
 | [a,b],hb,h1,h2 =>
   have e:A1s [a,b]=a%32*64+b%64:=rfl;rw[e];omega
 | [a,b,c],hb,h1,h2 =>
   have e:A1s [a,b,c]=(a%16*64+b%64)*64+c%64:=rfl;rw[e];omega
 | [a,b,c,d],hb,h1,h2 =>
   have e:A1s [a,b,c,d]=((a%8*64+b%64)*64+c%64)*64+d%64:=rfl;have h1:S9 a=4:=h1;have h2:okT [b,c,d] (loB a) (hiB a)=true:=h2;obtain⟨k1,k2,_⟩:=D0e h2;have ha:240≤a∧a≤244:=by unfold S9 at h1;(repeat' split at h1)<;>omega
   have hh:(a=244∧hiB a=143)∨(a≤243∧hiB a≤191):=by unfold hiB;(repeat' split)<;>omega
   have hl:128≤loB a:=by unfold loB;(repeat' split)<;>omega
   rw[e];omega
 | a::b::c::d::x::r,hb,h1,h2 =>
   have h1:S9 a=((a::b::c::d::x::r).length:Int):=h1
   have:=B9r (l:=a::r);have:S9 a≤4:=this;simp only[B6]at h1;omega
theorem C17{l:List Int}{b:Int}(hl:∀ x ∈ l,0≤x∧x<256)(h0:0≤b)(h1:b<256):∀ x ∈ el (utC l b),0≤x∧x≤1114111:=by
 have hlb:∀ x ∈ l++[b],0≤x∧x<256:=fun x hx=>by
  rcases B1.1 hx with h|h
  ·exact hl x h
  ·have:x=b:=by simpa using h
   omega
 have hb1:∀ x ∈ [b],0≤x∧x<256:=fun x hx=>hlb x (List.mem_append_right _ hx)
 have h0':∀ x ∈ el (A7x b),0≤x∧x≤1114111:=by
  unfold A7x;split
  ·rename_i k;intro x hx;have e:x=A1s [b]:=by simpa [el]using hx
   rw[e];exact C0n hb1 k
  ·split
   ·intro x hx;cases hx
   ·intro x hx;have e:x=65533:=by simpa [el]using hx
    omega
 unfold utC;split
 ·rename_i k;intro x hx;have e:x=A1s (l++[b]):=by simpa [el]using hx
  rw[e];exact C0n hlb k
 ·split
  ·intro x hx;cases hx
  ·split
   ·intro x hx;have e:x=65533:=by simpa [el]using hx
    omega
   ·intro x hx;have hx:x=65533∨x ∈ el (A7x b):=by simpa [el]using hx
    rcases hx with e|hx
    ·omega
    ·exact h0' x hx
theorem B55{l:List Int}{b:Int}:((el (utC l b)).length:Int)≤2:=by
 have:=B2_ b;unfold utC
 (repeat' split)<;>simp[el]<;>first|omega|(have e:(A7x b).getD []=el (A7x b):=rfl;rw[e];omega)
theorem C16{l:List Int}{b:Int}:((el (utR l b)).length:Int)≤3:=by
 unfold utR;split
 ·simp[el]
 ·split
  ·rename_i k;have:=A4C k;simp only[F6];exact this
  ·split
   ·simp[el]
   ·unfold B7R;split
    ·simp[el]
    ·simp[el]
noncomputable def A4b:List LpE:=[(99,([true,true,true,true,true,false,true,false],Q8 Tryz.prog gl n0 26 C5Z A0P)),(72,([true,true,false,true,false],Q8 Tryz.prog gl n0 7 B0f A15)),(72,([true,true,false,true,false,false,true,false,false,true,false],Q8 Tryz.prog gl n0 7 A8r A3S))]
theorem A2I{G:Nat→Option Obj}(hst:B9 Tryz.prog G gl H0 n0):A0D Tryz.prog G gl A4b:=(.cons Tryz.func99 C5Y C5X (C9q hst) (.cons Tryz.func72 B0e B0d (B3K hst) (.cons Tryz.func72 A8q A8p (B0g hst) .nil)))
def fs1(f:List UInt8)(r:Option (List Int)):Option (List Int):=if 0<((el r).length:Int)then A6Y (some (bI f)) r else none
def fsP(f:List UInt8)(q:Option (List Int))(b:Int):Option (List Int):=if((el q).length:Int)=0∧b=27 then some [27]else if((el q).length:Int)=0∧b<128 then none else
 if 0<((el (utC (el q) b)).length:Int)∧0<((el (utR (el q) b)).length:Int)then utR (el q) b else cP (el (utC (el q) b)) (fs1 f (utR (el q) b))
def fsI(f:List UInt8)(q:Option (List Int))(b:Int)(l:Option (List (Int×Int×Int×Int×Int×Int×Int×List UInt8))):Option (List (Int×Int×Int×Int×Int×Int×Int×List UInt8)):=if((el q).length:Int)=0∧b=27 then l else if((el q).length:Int)=0∧b<128 then some (el l++[ipK (plC b) (plM b+(f.length:Int)*2)])else
 cI (el (utC (el q) b)) ((f.length:Int)*2) l
theorem D0m{f:List UInt8}{q:Option (List Int)}{b:Int}{l:Option (List (Int×Int×Int×Int×Int×Int×Int×List UInt8))}(h:((el q).length:Int)=0∧b=27):some [27]=fsP f q b∧l=fsI f q b l:=by unfold fsP fsI;rw[if_pos h,if_pos h];exact⟨rfl,rfl⟩
theorem D0l{f:List UInt8}{q:Option (List Int)}{b:Int}{l:Option (List (Int×Int×Int×Int×Int×Int×Int×List UInt8))}(h:¬(((el q).length:Int)=0∧b=27))(h2:((el q).length:Int)=0∧b<128):none=fsP f q b∧some (el l++[ipK (plC b) (plM b+(f.length:Int)*2)])=fsI f q b l:=by unfold fsP fsI;rw[if_neg h,if_pos h2,if_neg h,if_pos h2];exact⟨rfl,rfl⟩
theorem D0k{f:List UInt8}{q:Option (List Int)}{b:Int}{l:Option (List (Int×Int×Int×Int×Int×Int×Int×List UInt8))}(h:¬(((el q).length:Int)=0∧b<128))(hc:0<((el (utC (el q) b)).length:Int)∧0<((el (utR (el q) b)).length:Int)):utR (el q) b=fsP f q b∧cI (el (utC (el q) b)) ((f.length:Int)*2) l=fsI f q b l:=by
 unfold fsP fsI;rw[if_neg (by omega),if_neg h,if_pos hc,if_neg (by omega),if_neg h];exact⟨rfl,rfl⟩
theorem D0j{f:List UInt8}{q:Option (List Int)}{b:Int}{l:Option (List (Int×Int×Int×Int×Int×Int×Int×List UInt8))}(h:¬(((el q).length:Int)=0∧b<128))(hc:¬(0<((el (utC (el q) b)).length:Int)∧0<((el (utR (el q) b)).length:Int)))(hr:0<((el (utR (el q) b)).length:Int)):cP (el (utC (el q) b)) (A6Y (some (bI f)) (utR (el q) b))=fsP f q b∧cI (el (utC (el q) b)) ((f.length:Int)*2) l=fsI f q b l:=by
 unfold fsP fsI fs1;rw[if_neg (by omega),if_neg h,if_neg hc,if_pos hr,if_neg (by omega),if_neg h];exact⟨rfl,rfl⟩
theorem D0i{f:List UInt8}{q:Option (List Int)}{b:Int}{l:Option (List (Int×Int×Int×Int×Int×Int×Int×List UInt8))}(h:¬(((el q).length:Int)=0∧b<128))(hr:¬0<((el (utR (el q) b)).length:Int)):cP (el (utC (el q) b)) none=fsP f q b∧cI (el (utC (el q) b)) ((f.length:Int)*2) l=fsI f q b l:=by
 unfold fsP fsI fs1;rw[if_neg (by omega),if_neg h,if_neg (fun h=>hr h.2),if_neg hr,if_neg (by omega),if_neg h];exact⟨rfl,rfl⟩
theorem C7f{a m:Int}(h:a=0∨a=4)(h2:m=0∨m=2):evU (.bin .or) [.int .i64 a,.int .i64 m]=.int .i64 (a+m):=by
 rcases h with rfl|rfl<;>rcases h2 with rfl|rfl<;>rfl
theorem B4D{a c:Option (List Int)}{b d:Option (List (Int×Int×Int×Int×Int×Int×Int×List UInt8))}{mp:Option (List Qt)}(h:a=c∧b=d):[A8 rB c,A8 rI d,A8 rQ mp]=[A8 rB a,A8 rI b,A8 rQ mp]:=by rw[h.1,h.2]
noncomputable def C6Y:List (FuncId×FnC):=(50,I9 Tryz.prog [.a [8,8,8,8,8,8,8,8,8,8,8,3,8],.a [3,3,3,3,3,3,3,9]] j8 [.s 9])::(127,I9 Tryz.prog [.s 11,.s 4] A3n [.s 11,.s 11])::(126,I9 Tryz.prog [.s 4] A5D [.a [3,3,3,3,3,3,3,9]])::L0
theorem C1d{G:Nat→Option Obj}(hst:B9 Tryz.prog G gl H0 n0):G4 Tryz.prog G gl C6Y:=(.cons (A3b hst) (.cons (C3u hst) (.cons (C41 hst) .nil)))
def c8:List U→Option (Nat×List U)
 | [.str f,u_q,.int .u8 b,u_p,u_inp,u_mp]=>(J9 rB u_q).bind fun q=>(J9 rB u_p).bind fun p=>(J9 rI u_inp).bind fun inp=>(J9 rQ u_mp).bind fun mp=>if(f=[]∨f=[27])∧(((el q).length:Int)≤100∧(((el q).length:Int)=0∨knd (el q)=1)∧0≤b∧b<256∧∀ x ∈ el q,0≤x∧x<256)∧((el inp).length:Int)≤900000 then some (0,[A8 rB (fsP f q b),A8 rI (fsI f q b inp),A8 rQ mp])else none
 | _=>none
theorem A2D(f:(List UInt8))(q:(Option (List Int)))(b:Int)(p:(Option (List Int)))(inp:(Option (List (Int×Int×Int×Int×Int×Int×Int×(List UInt8)))))(mp:(Option (List ((List UInt8)×Int×Int×Int×Int×Int×Int×Int×(List UInt8)))))(hc:(f=[]∨f=[27])∧(((el q).length:Int)≤100∧(((el q).length:Int)=0∨knd (el q)=1)∧0≤b∧b<256∧∀ x ∈ el q,0≤x∧x<256)∧((el inp).length:Int)≤900000):c8 [.str f,A8 rB q,.int .u8 b,A8 rB p,A8 rI inp,A8 rQ mp]=some (0,[A8 rB (fsP f q b),A8 rI (fsI f q b inp),A8 rQ mp]):=by
 simp only[c8,G1,D4];exact if_pos hc
def C0D:Q9:=⟨[(0,.pointer (some ⟨9,0,none⟩)),(1,h 0 9),(2,dat 14 1 11),(3,h 2 4)],[(9,.cells 83 [dat 15 3 11,.map (some 7),own 16 4 18]),(7,.mp 5 19 81),(16,.sq 4 18 23 17),(14,.frz),(15,.frz),(17,.frz)],6,[⟨.ret,[(0,.pointer (some ⟨9,0,none⟩))],[(9,.cells 83 [dat 18 0 11,.map (some 7),own 19 1 18]),(7,.mp 2 19 81),(19,.sq 1 18 23 20),(18,.frz),(20,.frz)],3⟩]⟩
noncomputable def C9p:Code:=(Tryz.f99.body).getD .skip
theorem C9o:Tryz.f99.body=some C9p:=rfl
def C5R:Tr:=aD [h 0 9]<|.lt 3 (.bin .mul) [h3 6,jI 2]<|aD [h 1 11]<|aE [h3 8,jI 0]<|.br 9 (aE [h 2 4,.int .u8 (27)]<|.br 10 (.dt 11 (.mk 1) [.int .u8 (27)]<|.ret [jI 0,h 11 11,h 4 18,h 5 19]) (aE [h3 8,jI 0]<|.br 11 (aL [h 2 4,.int .u8 (128)]<|.br 12 (.fn A5D [h 2 4] 8<|.lt 3 (.bin .or) [h3 15,h3 7]<|.dt 18 (.snoc 8) [h 4 18,h3 13,h3 14,h3 21,h3 16,h3 17,h3 18,h3 19,h 20 9]<|.dt 11 (.nilw 1) []<|.ret [jI 0,h 23 11,h 22 18,h 5 19]) (.fn A3n [h 1 11,h 2 4] 2<|aD [h 13 11]<|aG [h3 15,jI 0]<|.br 16 (.dt 11 (.byt) [h 0 9]<|.dt 11 (.cat 1) [h 17 11,h 13 11]<|aD [h 14 11]<|.fn A0P [h3 7,h 13 11,h 14 11,h 14 11,h3 19,jI 0,h 18 11,h 4 18,h 5 19] 5<|aD [h 21 11]<|aG [h3 25,jI 0]<|.br 26 (aD [h 20 11]<|aG [h3 27,jI 0]<|.br 28 (.ret [jI 0,h 20 11,h 23 18,h 24 19]) (.ret [jI 0,h 22 11,h 23 18,h 24 19])) (.ret [jI 0,h 22 11,h 23 18,h 24 19])) (aD [h 14 11]<|.dt 11 (.nilw 1) []<|.fn A0P [h3 7,h 13 11,h 14 11,h 14 11,h3 17,jI 0,h 18 11,h 4 18,h 5 19] 5<|aD [h 20 11]<|aG [h3 24,jI 0]<|.br 25 (aD [h 19 11]<|aG [h3 26,jI 0]<|.br 27 (.ret [jI 0,h 19 11,h 22 18,h 23 19]) (.ret [jI 0,h 21 11,h 22 18,h 23 19])) (.ret [jI 0,h 21 11,h 22 18,h 23 19])))) (.fn A3n [h 1 11,h 2 4] 2<|aD [h 12 11]<|aG [h3 14,jI 0]<|.br 15 (.dt 11 (.byt) [h 0 9]<|.dt 11 (.cat 1) [h 16 11,h 12 11]<|aD [h 13 11]<|.fn A0P [h3 7,h 12 11,h 13 11,h 13 11,h3 18,jI 0,h 17 11,h 4 18,h 5 19] 5<|aD [h 20 11]<|aG [h3 24,jI 0]<|.br 25 (aD [h 19 11]<|aG [h3 26,jI 0]<|.br 27 (.ret [jI 0,h 19 11,h 22 18,h 23 19]) (.ret [jI 0,h 21 11,h 22 18,h 23 19])) (.ret [jI 0,h 21 11,h 22 18,h 23 19])) (aD [h 13 11]<|.dt 11 (.nilw 1) []<|.fn A0P [h3 7,h 12 11,h 13 11,h 13 11,h3 16,jI 0,h 17 11,h 4 18,h 5 19] 5<|aD [h 19 11]<|aG [h3 23,jI 0]<|.br 24 (aD [h 18 11]<|aG [h3 25,jI 0]<|.br 26 (.ret [jI 0,h 18 11,h 21 18,h 22 19]) (.ret [jI 0,h 20 11,h 21 18,h 22 19])) (.ret [jI 0,h 20 11,h 21 18,h 22 19]))))) (aE [h3 8,jI 0]<|.br 10 (aL [h 2 4,.int .u8 (128)]<|.br 11 (.fn A5D [h 2 4] 8<|.lt 3 (.bin .or) [h3 14,h3 7]<|.dt 18 (.snoc 8) [h 4 18,h3 12,h3 13,h3 20,h3 15,h3 16,h3 17,h3 18,h 19 9]<|.dt 11 (.nilw 1) []<|.ret [jI 0,h 22 11,h 21 18,h 5 19]) (.fn A3n [h 1 11,h 2 4] 2<|aD [h 12 11]<|aG [h3 14,jI 0]<|.br 15 (.dt 11 (.byt) [h 0 9]<|.dt 11 (.cat 1) [h 16 11,h 12 11]<|aD [h 13 11]<|.fn A0P [h3 7,h 12 11,h 13 11,h 13 11,h3 18,jI 0,h 17 11,h 4 18,h 5 19] 5<|aD [h 20 11]<|aG [h3 24,jI 0]<|.br 25 (aD [h 19 11]<|aG [h3 26,jI 0]<|.br 27 (.ret [jI 0,h 19 11,h 22 18,h 23 19]) (.ret [jI 0,h 21 11,h 22 18,h 23 19])) (.ret [jI 0,h 21 11,h 22 18,h 23 19])) (aD [h 13 11]<|.dt 11 (.nilw 1) []<|.fn A0P [h3 7,h 12 11,h 13 11,h 13 11,h3 16,jI 0,h 17 11,h 4 18,h 5 19] 5<|aD [h 19 11]<|aG [h3 23,jI 0]<|.br 24 (aD [h 18 11]<|aG [h3 25,jI 0]<|.br 26 (.ret [jI 0,h 18 11,h 21 18,h 22 19]) (.ret [jI 0,h 20 11,h 21 18,h 22 19])) (.ret [jI 0,h 20 11,h 21 18,h 22 19])))) (.fn A3n [h 1 11,h 2 4] 2<|aD [h 11 11]<|aG [h3 13,jI 0]<|.br 14 (.dt 11 (.byt) [h 0 9]<|.dt 11 (.cat 1) [h 15 11,h 11 11]<|aD [h 12 11]<|.fn A0P [h3 7,h 11 11,h 12 11,h 12 11,h3 17,jI 0,h 16 11,h 4 18,h 5 19] 5<|aD [h 19 11]<|aG [h3 23,jI 0]<|.br 24 (aD [h 18 11]<|aG [h3 25,jI 0]<|.br 26 (.ret [jI 0,h 18 11,h 21 18,h 22 19]) (.ret [jI 0,h 20 11,h 21 18,h 22 19])) (.ret [jI 0,h 20 11,h 21 18,h 22 19])) (aD [h 12 11]<|.dt 11 (.nilw 1) []<|.fn A0P [h3 7,h 11 11,h 12 11,h 12 11,h3 15,jI 0,h 16 11,h 4 18,h 5 19] 5<|aD [h 18 11]<|aG [h3 22,jI 0]<|.br 23 (aD [h 17 11]<|aG [h3 24,jI 0]<|.br 25 (.ret [jI 0,h 17 11,h 20 18,h 21 19]) (.ret [jI 0,h 19 11,h 20 18,h 21 19])) (.ret [jI 0,h 19 11,h 20 18,h 21 19]))))
theorem C5S{G:Nat→Option Obj}(hst:B9 Tryz.prog G gl H0 n0):B1l Tryz.prog G gl 99 (A34 Tryz.prog Tryz.f99 gl n0 21 C0D c8):=by
 refine B2G (C:=cx C6Y A4b) (dep:=60) (f:=99) (n0:=n0) (nB:=21) (H0:=H0) C5R (cxg (C1d hst) (A2I hst)) hst Tryz.func99 C9o (by kernel_rfl) (by kernel_rfl) (by kernel_rfl) ?_;intro us d outs hs;have hs0:=hs;unfold c8 at hs;split at hs
 ·skip;rename_i f u_q b u_p u_inp u_mp;have hq_q:=A6.1 hs;clear hs;obtain⟨q,hd_q,hs⟩:=hq_q;replace hd_q:=F2 hd_q;subst hd_q;have hq_p:=A6.1 hs;clear hs;obtain⟨p,hd_p,hs⟩:=hq_p;replace hd_p:=F2 hd_p;subst hd_p;have hq_inp:=A6.1 hs;clear hs;obtain⟨inp,hd_inp,hs⟩:=hq_inp;replace hd_inp:=F2 hd_inp;subst hd_inp;have hq_mp:=A6.1 hs;clear hs;obtain⟨mp,hd_mp,hs⟩:=hq_mp;replace hd_mp:=F2 hd_mp;subst hd_mp;split at hs
  ·rename_i hc;clear hs hs0;have zf:(f.length:Int)=0∨(f.length:Int)=1:=by rcases hc.1 with rfl|rfl<;>decide
   have zc:=B55 (l:=el q) (b:=b);have zr:=C16 (l:=el q) (b:=b);have zg:=C17 (l:=el q) hc.2.1.2.2.2.2 hc.2.1.2.2.1 hc.2.1.2.2.2.1;refine⟨rfl,?_⟩;unfold C5R;refine w0 (.cons 5 _ (.cons 4 _ (.cons 3 _ (.cons 2 _ (.cons 1 _ (.cons 0 _ (.nil))))))) ?_;repeat (first|refine R2 ?_|(refine w7 [.int .i64 _,A8 rB _,A8 rI _,A8 rQ _] ?_;rotate_left)|refine w4 (fun g=>?_) fun g=>?_|refine A7y ?_|(refine w3 A0P (e:=A0g _ _ _ _ _ _ _ _ _ ⟨rfl,by decide,by omega,by omega,by omega,zg⟩) (k':=?_);show Wk _ _ (.cons _ _ (.cons _ _ (.cons _ _ (.cons _ _ (.cons _ _ _))))))|refine w2 (.nilw 1) (r:=rB) (e:=E5 rfl) (k':=?_)|refine N6 ?_|refine w32 A3n (e:=C18 _ _ hc.2.1) (k':=?_)|refine w2 (.byt) (r:=rB) (e:=y9 _ rfl) (k':=?_)|refine w2 (.cat 1) (r:=rB) (e:=B2c rfl (by first|omega|(rw[F6,A7H];omega)|(show 0+_≤_;omega))) (k':=?_)|refine B8Z ?_|refine B3B ?_|refine A1U ?_|(refine w3 A5D (e:=B6i _ ⟨by omega,by omega⟩) (k':=?_);show Wk _ _ (.cons _ _ (.cons _ _ (.cons _ _ (.cons _ _ (.cons _ _ (.cons _ _ (.cons _ _ (.cons _ _ _)))))))))|refine w1 (.bin .or) (e:=C7f (C4t _) (by omega)) (k':=?_)|refine w2 (.snoc 8) (r:=rI) (e:=J7 (a:=(_,_,_,_,_,_,_,_)) rfl rfl (by decide) (by first|omega|(rw[F6,A7H];omega)|(show 0+_≤_;omega))) (k':=?_)|refine B3C ?_|refine w2 (.mk 1) (r:=rB) (e:=P2 [_] rfl (by decide) rfl) (k':=?_))
   all_goals first
    | refine L6 (d:=0) ?_
      rw[A2D f q b p inp mp hc];refine congrArg (fun z=>some (0,z)) ?_;first
      | exact B4D (D0m (by omega))
      | exact B4D (D0l (by omega) (by omega))
      | exact B4D (D0k (by omega) (by omega))
      | exact B4D (D0j (by omega) (by omega) (by omega))
      | exact B4D (D0i (by omega) (by omega))
      | (exfalso;omega)
  ·cases hs
 ·cases hs
def mdK(s:List UInt8):Prop:=3≤(s.length:Int)∧(Lib.hasPrefix s [27,91,60]=false∨4≤(s.length:Int))∧(Lib.hasPrefix s [27,91,77]=false∨6≤(s.length:Int))∧(s.length:Int)≤100000
instance(s:List UInt8):Decidable (mdK s):=by unfold mdK;infer_instance
theorem nbT{z:Bool}(h:(!z)=true):z=false:=by cases z<;>first|rfl|cases h
theorem nbF{z:Bool}(h:(!z)=false):z=true:=by cases z<;>first|rfl|cases h
def cmX(s:List UInt8)(mp:Option (List Qt)):Option (Int×Int×Int×Int×Int×Int×Int×List UInt8):=match (el mp).find? (fun a=>(s == a.1 && true))with
 | some q=>some q.2
 | none=>if Lib.hasPrefix s [27,91]=true∧mdB s=true then some (2,0,mdN s / 4%8,mdV s,mdN s%4,mdR s,mdC s,[])else none
def cmI(s:List UInt8)(mp:Option (List Qt))(l:Option (List (Int×Int×Int×Int×Int×Int×Int×List UInt8))):Option (List (Int×Int×Int×Int×Int×Int×Int×List UInt8)):=match cmX s mp with
 | some x=>some (el l++[x])
 | none=>l
theorem C02{s:List UInt8}:∀ {l:List Qt},l.any (fun a=>(s == a.1 && true))=false→l.find? (fun a=>(s == a.1 && true))=none
 | [],_=>rfl
 | a::r,h=>by
   have h:((s == a.1 && true) || r.any (fun a=>(s == a.1 && true)))=false:=h;obtain⟨h1,h2⟩:=O5.1 h;rw[List.find?_cons_of_neg (by rw[h1];decide)];exact C02 h2
theorem C5y{s:List UInt8}:∀ {l:List Qt},l.any (fun a=>(s == a.1 && true))=true→∃ q,l.find? (fun a=>(s == a.1 && true))=some q
 | [],h=>by cases h
 | a::r,h=>by
   cases hq:(s == a.1 && true)with
   | true=>exact⟨a,List.find?_cons_of_pos hq⟩
   | false =>
     have h:((s == a.1 && true) || r.any (fun a=>(s == a.1 && true)))=true:=h;rw[hq,Q7]at h;obtain⟨q,hr⟩:=C5y h;exact⟨q,by rw[List.find?_cons_of_neg (by rw[hq];decide)];exact hr⟩
theorem D0s{s:List UInt8}{mp:Option (List Qt)}{l:Option (List (Int×Int×Int×Int×Int×Int×Int×List UInt8))}(h:(el mp).any (fun a=>(s == a.1 && true))=true):some (el l++[(((el mp).find? (fun a=>(s == a.1 && true))).elim 0 (fun a=>a.2.1),((el mp).find? (fun a=>(s == a.1 && true))).elim 0 (fun a=>a.2.2.1),((el mp).find? (fun a=>(s == a.1 && true))).elim 0 (fun a=>a.2.2.2.1),((el mp).find? (fun a=>(s == a.1 && true))).elim 0 (fun a=>a.2.2.2.2.1),((el mp).find? (fun a=>(s == a.1 && true))).elim 0 (fun a=>a.2.2.2.2.2.1),((el mp).find? (fun a=>(s == a.1 && true))).elim 0 (fun a=>a.2.2.2.2.2.2.1),((el mp).find? (fun a=>(s == a.1 && true))).elim 0 (fun a=>a.2.2.2.2.2.2.2.1),((el mp).find? (fun a=>(s == a.1 && true))).elim [] (fun a=>a.2.2.2.2.2.2.2.2))])=cmI s mp l:=by
 obtain⟨q,hq⟩:=C5y h;unfold cmI cmX;rw[hq];rfl
theorem D0r{s:List UInt8}{mp:Option (List Qt)}{l:Option (List (Int×Int×Int×Int×Int×Int×Int×List UInt8))}(h:(el mp).any (fun a=>(s == a.1 && true))=false)(hp:Lib.hasPrefix s [27,91]=true)(hB:mdB s=true):some (el l++[(ifI (mdB s) 2,0,ifI (mdB s) (mdN s / 4%8),ifI (mdB s) (mdV s),ifI (mdB s) (mdN s%4),ifI (mdB s) (mdR s),ifI (mdB s) (mdC s),[])])=cmI s mp l:=by
 unfold cmI cmX;rw[C02 h,hB,if_pos ⟨hp,rfl⟩];rfl
theorem C98{s:List UInt8}{mp:Option (List Qt)}{l:Option (List (Int×Int×Int×Int×Int×Int×Int×List UInt8))}(h:(el mp).any (fun a=>(s == a.1 && true))=false)(h2:Lib.hasPrefix s [27,91]=false∨mdB s=false):l=cmI s mp l:=by
 unfold cmI cmX;rw[C02 h];simp only;rw[if_neg (fun hh=>by rcases h2 with h|h<;>rw[h]at hh<;>simp at hh)]
theorem B69{b d:Option (List (Int×Int×Int×Int×Int×Int×Int×List UInt8))}{mp:Option (List Qt)}(h:b=d):[A8 rB none,A8 rI d,A8 rQ mp]=[A8 rB none,A8 rI b,A8 rQ mp]:=by rw[h]
noncomputable def C6g:List (FuncId×FnC):=(50,I9 Tryz.prog [.a [8,8,8,8,8,8,8,8,8,8,8,3,8],.a [3,3,3,3,3,3,3,9]] j8 [.s 9])::(128,I9 Tryz.prog [.s 9] B0_ [.a [3,3,3,3,3,3,3,9],.s 8])::(54,I9 Tryz.prog [.s 9,.s 9] y4 [.s 8])::L0
theorem C1l{G:Nat→Option Obj}(hst:B9 Tryz.prog G gl H0 n0):G4 Tryz.prog G gl C6g:=(.cons (A3b hst) (.cons (C9R hst) (.cons (B6o hst) .nil)))
def A4R:List U→Option (Nat×List U)
 | [.str s,u_p,u_inp,u_mp]=>(J9 rB u_p).bind fun p=>(J9 rI u_inp).bind fun inp=>(J9 rQ u_mp).bind fun mp=>if(Lib.hasPrefix s [27,91]=false∨mdK s)∧((el inp).length:Int)≤900000 then some (0,[A8 rB none,A8 rI (cmI s mp inp),A8 rQ mp])else none
 | _=>none
theorem B2k(s:(List UInt8))(p:(Option (List Int)))(inp:(Option (List (Int×Int×Int×Int×Int×Int×Int×(List UInt8)))))(mp:(Option (List ((List UInt8)×Int×Int×Int×Int×Int×Int×Int×(List UInt8)))))(hc:(Lib.hasPrefix s [27,91]=false∨mdK s)∧((el inp).length:Int)≤900000):A4R [.str s,A8 rB p,A8 rI inp,A8 rQ mp]=some (0,[A8 rB none,A8 rI (cmI s mp inp),A8 rQ mp]):=by
 simp only[A4R,G1,D4];exact if_pos hc
def C0o:Q9:=⟨[(0,.pointer (some ⟨9,0,none⟩)),(1,h 0 9)],[(9,.cells 83 [dat 16 1 11,.map (some 7),own 17 2 18]),(7,.mp 3 19 81),(17,.sq 2 18 23 18),(16,.frz),(18,.frz)],4,[⟨.ret,[(0,.pointer (some ⟨9,0,none⟩))],[(9,.cells 83 [dat 19 0 11,.map (some 7),own 20 1 18]),(7,.mp 2 19 81),(20,.sq 1 18 23 21),(19,.frz),(21,.frz)],3⟩]⟩
noncomputable def C97:Code:=(Tryz.f105.body).getD .skip
theorem C96:Tryz.f105.body=some C97:=rfl
def C5n:Tr:=.lt 3 (.mget 9 1 1) [h 3 19,jI 0,h 0 9]<|.lt 3 (.mget 9 1 2) [h 3 19,jI 0,h 0 9]<|.lt 3 (.mget 9 1 3) [h 3 19,jI 0,h 0 9]<|.lt 3 (.mget 9 1 4) [h 3 19,jI 0,h 0 9]<|.lt 3 (.mget 9 1 5) [h 3 19,jI 0,h 0 9]<|.lt 3 (.mget 9 1 6) [h 3 19,jI 0,h 0 9]<|.lt 3 (.mget 9 1 7) [h 3 19,jI 0,h 0 9]<|.lt 9 (.mget 9 1 8) [h 3 19,.string ⟨⟨[]⟩⟩,h 0 9]<|.lt 8 (.mhas 9 1) [h 3 19,h 0 9]<|aX [h 12 8]<|.br 13 (.fn y4 [h 0 9,.string ⟨⟨[27,91]⟩⟩] 1<|.br 14 (.fn B0_ [h 0 9] 9<|.br 23 (.dt 18 (.snoc 8) [h 2 18,h3 15,h3 16,h3 17,h3 18,h3 19,h3 20,h3 21,h 22 9]<|.dt 11 (.nilw 1) []<|.ret [jI 0,h 25 11,h 24 18,h 3 19]) (.dt 11 (.nilw 1) []<|.ret [jI 0,h 24 11,h 2 18,h 3 19])) (.br 12 (.dt 18 (.snoc 8) [h 2 18,h3 4,h3 5,h3 6,h3 7,h3 8,h3 9,h3 10,h 11 9]<|.dt 11 (.nilw 1) []<|.ret [jI 0,h 16 11,h 15 18,h 3 19]) (.dt 11 (.nilw 1) []<|.ret [jI 0,h 15 11,h 2 18,h 3 19]))) (.br 12 (.dt 18 (.snoc 8) [h 2 18,h3 4,h3 5,h3 6,h3 7,h3 8,h3 9,h3 10,h 11 9]<|.dt 11 (.nilw 1) []<|.ret [jI 0,h 15 11,h 14 18,h 3 19]) (.dt 11 (.nilw 1) []<|.ret [jI 0,h 14 11,h 2 18,h 3 19]))
theorem C5o{G:Nat→Option Obj}(hst:B9 Tryz.prog G gl H0 n0):B1l Tryz.prog G gl 105 (A34 Tryz.prog Tryz.f105 gl n0 22 C0o A4R):=by
 refine B2G (C:=cx C6g A4b) (dep:=60) (f:=105) (n0:=n0) (nB:=22) (H0:=H0) C5n (cxg (C1l hst) (A2I hst)) hst Tryz.func105 C96 (by kernel_rfl) (by kernel_rfl) (by kernel_rfl) ?_;intro us d outs hs;have hs0:=hs;unfold A4R at hs;split at hs
 ·skip;rename_i s u_p u_inp u_mp;have hq_p:=A6.1 hs;clear hs;obtain⟨p,hd_p,hs⟩:=hq_p;replace hd_p:=F2 hd_p;subst hd_p;have hq_inp:=A6.1 hs;clear hs;obtain⟨inp,hd_inp,hs⟩:=hq_inp;replace hd_inp:=F2 hd_inp;subst hd_inp;have hq_mp:=A6.1 hs;clear hs;obtain⟨mp,hd_mp,hs⟩:=hq_mp;replace hd_mp:=F2 hd_mp;subst hd_mp;split at hs
  ·rename_i hc;clear hs hs0;refine⟨rfl,?_⟩;unfold C5n;refine w0 (.cons 3 _ (.cons 2 _ (.cons 1 _ (.cons 0 _ (.nil))))) ?_;repeat (first|refine w4 (fun g=>?_) fun g=>?_|refine w4B (fun g=>?_) fun g=>?_|refine w2 (.nilw 1) (r:=rB) (e:=E5 rfl) (k':=?_)|(refine w7 [.int .i64 _,A8 rB _,A8 rI _,A8 rQ _] ?_;rotate_left)|refine w2 (.snoc 8) (r:=rI) (e:=J7 (a:=(_,_,_,_,_,_,_,_)) rfl rfl (by decide) (by omega)) (k':=?_)|refine m9 ?_|refine A3o ?_|refine w1x (.mget 9 1 1) (e:=y8 (U.int .i64) (fun a=>(_ == a.1 && true)) (fun a=>a.2.1) rfl rfl (fun _=>rfl) (fun _=>rfl)) (k':=?_)|refine w1x (.mget 9 1 2) (e:=y8 (U.int .i64) (fun a=>(_ == a.1 && true)) (fun a=>a.2.2.1) rfl rfl (fun _=>rfl) (fun _=>rfl)) (k':=?_)|refine w1x (.mget 9 1 3) (e:=y8 (U.int .i64) (fun a=>(_ == a.1 && true)) (fun a=>a.2.2.2.1) rfl rfl (fun _=>rfl) (fun _=>rfl)) (k':=?_)|refine w1x (.mget 9 1 4) (e:=y8 (U.int .i64) (fun a=>(_ == a.1 && true)) (fun a=>a.2.2.2.2.1) rfl rfl (fun _=>rfl) (fun _=>rfl)) (k':=?_)|refine w1x (.mget 9 1 5) (e:=y8 (U.int .i64) (fun a=>(_ == a.1 && true)) (fun a=>a.2.2.2.2.2.1) rfl rfl (fun _=>rfl) (fun _=>rfl)) (k':=?_)|refine w1x (.mget 9 1 6) (e:=y8 (U.int .i64) (fun a=>(_ == a.1 && true)) (fun a=>a.2.2.2.2.2.2.1) rfl rfl (fun _=>rfl) (fun _=>rfl)) (k':=?_)|refine w1x (.mget 9 1 7) (e:=y8 (U.int .i64) (fun a=>(_ == a.1 && true)) (fun a=>a.2.2.2.2.2.2.2.1) rfl rfl (fun _=>rfl) (fun _=>rfl)) (k':=?_)|refine w1x (.mget 9 1 8) (e:=y8 U.str (fun a=>(_ == a.1 && true)) (fun a=>a.2.2.2.2.2.2.2.2) rfl rfl (fun _=>rfl) (fun _=>rfl)) (k':=?_)|refine w1x (.mhas 9 1) (e:=B4N (fun a=>(_ == a.1 && true)) rfl rfl (fun _=>rfl)) (k':=?_)|refine w31 y4 (e:=A8N _ _) (k':=?_)|(refine w3 B0_ (e:=C2x _ (hc.1.resolve_left (by rw[show Lib.hasPrefix s [27,91]=true from(by first|assumption|exact nbT ‹_›|exact nbF ‹_›)];decide))) (k':=?_);show Wk _ _ (.cons _ _ (.cons _ _ (.cons _ _ (.cons _ _ (.cons _ _ (.cons _ _ (.cons _ _ (.cons _ _ (.cons _ _ _)))))))))))
   all_goals first
    | refine L6 (d:=0) ?_
      rw[B2k s p inp mp hc];refine congrArg (fun z=>some (0,z)) ?_;first
      | exact B69 (D0s (by first|assumption|exact nbT ‹_›|exact nbF ‹_›))
      | exact B69 (D0r (by first|assumption|exact nbT ‹_›|exact nbF ‹_›) (by first|assumption|exact nbT ‹_›|exact nbF ‹_›) (by first|assumption|exact nbT ‹_›|exact nbF ‹_›))
      | exact B69 (C98 (by first|assumption|exact nbT ‹_›|exact nbF ‹_›) (.inl (by first|assumption|exact nbT ‹_›|exact nbF ‹_›)))
      | exact B69 (C98 (by first|assumption|exact nbT ‹_›|exact nbF ‹_›) (.inr (by first|assumption|exact nbT ‹_›|exact nbF ‹_›)))
      | exact absurd (show(el mp).any (fun a=>(s == a.1 && true))=true from(by first|assumption|exact nbT ‹_›|exact nbF ‹_›)) (by rw[show(el mp).any (fun a=>(s == a.1 && true))=false from(by first|assumption|exact nbT ‹_›|exact nbF ‹_›)];decide)
  ·cases hs
 ·cases hs
def peL:Option (List Int):=some [27,91,50,48,49,126]
def psT(a:Option (List Int)):Option (List Int):=K4 a (6:Int).toNat ((el a).length:Int).toNat
def psP(a:Option (List Int)):Option (List Int):=if sfX (psT a) peL=true then none else if 1006<((el (psT a)).length:Int)then A6Y (some (el (K4 a (0:Int).toNat (1006:Int).toNat)++[0])) (K4 a (1008:Int).toNat ((el a).length:Int).toNat)else a
def psI(a:Option (List Int))(l:Option (List (Int×Int×Int×Int×Int×Int×Int×List UInt8))):Option (List (Int×Int×Int×Int×Int×Int×Int×List UInt8)):=if sfX (psT a) peL=true then some (el l++[(3,0,0,0,0,0,0,rmE (iB (el (K4 (sfP (psT a) peL) (0:Int).toNat (min ((el (sfP (psT a) peL)).length:Int) 1000).toNat))))])else l
theorem A3r{α:Type}{x:Option (List α)}{i j:Nat}:((el (K4 x i j)).length:Int)≤(el x).length:=by rw[K0,D5,C8];omega
theorem C2J{p u:Option (List Int)}:((el (sfP p u)).length:Int)≤(el p).length:=by
 unfold sfP;split
 ·exact A3r
 ·exact Int.le_refl _
theorem C61{p u:Option (List Int)}(h:∀ x ∈ el p,0≤x∧x<256):∀ x ∈ el (sfP p u),0≤x∧x<256:=by
 unfold sfP;split
 ·exact A4X h
 ·exact h
theorem C8o{a c:Option (List Int)}{b d:Option (List (Int×Int×Int×Int×Int×Int×Int×List UInt8))}{mp:Option (List Qt)}(h1:a=c)(h2:b=d):[A8 rB c,A8 rI d,A8 rQ mp]=[A8 rB a,A8 rI b,A8 rQ mp]:=by rw[h1,h2]
theorem C8t{a:Option (List Int)}{l:Option (List (Int×Int×Int×Int×Int×Int×Int×List UInt8))}(h:sfX (psT a) peL=true):none=psP a∧some (el l++[(3,0,0,0,0,0,0,rmE (iB (el (K4 (sfP (psT a) peL) (0:Int).toNat (min ((el (sfP (psT a) peL)).length:Int) 1000).toNat))))])=psI a l:=by unfold psP psI;rw[if_pos h,if_pos h];exact⟨rfl,rfl⟩
theorem C8v{a:Option (List Int)}{l:Option (List (Int×Int×Int×Int×Int×Int×Int×List UInt8))}(h:sfX (psT a) peL=false)(h2:1006<((el (psT a)).length:Int)):A6Y (some (el (K4 a (0:Int).toNat (1006:Int).toNat)++[0])) (K4 a (1008:Int).toNat ((el a).length:Int).toNat)=psP a∧l=psI a l:=by unfold psP psI;rw[if_neg (by rw[h];decide),if_pos h2,if_neg (by rw[h];decide)];exact⟨rfl,rfl⟩
theorem C8u{a:Option (List Int)}{l:Option (List (Int×Int×Int×Int×Int×Int×Int×List UInt8))}(h:sfX (psT a) peL=false)(h2:¬1006<((el (psT a)).length:Int)):a=psP a∧l=psI a l:=by unfold psP psI;rw[if_neg (by rw[h];decide),if_neg h2,if_neg (by rw[h];decide)];exact⟨rfl,rfl⟩
theorem C80:∀ x ∈ el peL,0≤x∧x<256:=by decide
theorem A7a{a c:Option (List Int)}{b d:Option (List (Int×Int×Int×Int×Int×Int×Int×List UInt8))}{mp:Option (List Qt)}(h:a=c∧b=d):[A8 rB c,A8 rI d,A8 rQ mp]=[A8 rB a,A8 rI b,A8 rQ mp]:=C8o h.1 h.2
noncomputable def C6M:List (FuncId×FnC):=(50,I9 Tryz.prog [.a [8,8,8,8,8,8,8,8,8,8,8,3,8],.a [3,3,3,3,3,3,3,9]] j8 [.s 9])::(145,I9 Tryz.prog [.s 11,.s 11] A9k [.s 11,.s 8])::(29,I9 Tryz.prog [.s 9,.s 9,.s 9] A51 [.s 9])::L0
theorem C1R{G:Nat→Option Obj}(hst:B9 Tryz.prog G gl H0 n0):G4 Tryz.prog G gl C6M:=(.cons (A3b hst) (.cons (C91 hst) (.cons (C4Y hst) .nil)))
def A86:List U→Option (Nat×List U)
 | [u_a,u_p,u_inp,u_mp]=>(J9 rB u_a).bind fun a=>(J9 rB u_p).bind fun p=>(J9 rI u_inp).bind fun inp=>(J9 rQ u_mp).bind fun mp=>if 6≤((el a).length:Int)∧((el a).length:Int)≤100000∧(∀ x ∈ el a,0≤x∧x<256)∧((el inp).length:Int)≤900000 then some (0,[A8 rB (psP a),A8 rI (psI a inp),A8 rQ mp])else none
 | _=>none
theorem B6Q(a:(Option (List Int)))(p:(Option (List Int)))(inp:(Option (List (Int×Int×Int×Int×Int×Int×Int×(List UInt8)))))(mp:(Option (List ((List UInt8)×Int×Int×Int×Int×Int×Int×Int×(List UInt8)))))(hc:6≤((el a).length:Int)∧((el a).length:Int)≤100000∧(∀ x ∈ el a,0≤x∧x<256)∧((el inp).length:Int)≤900000):A86 [A8 rB a,A8 rB p,A8 rI inp,A8 rQ mp]=some (0,[A8 rB (psP a),A8 rI (psI a inp),A8 rQ mp]):=by
 simp only[A86,G1,D4];exact if_pos hc
def C4m:Q9:=⟨[(0,.pointer (some ⟨9,0,none⟩)),(1,dat 16 0 11)],[(9,.cells 83 [dat 17 1 11,.map (some 7),own 18 2 18]),(7,.mp 3 19 81),(18,.sq 2 18 23 19),(16,.frz),(17,.frz),(19,.frz)],4,[⟨.ret,[(0,.pointer (some ⟨9,0,none⟩))],[(9,.cells 83 [dat 20 0 11,.map (some 7),own 21 1 18]),(7,.mp 2 19 81),(21,.sq 1 18 23 22),(20,.frz),(22,.frz)],3⟩]⟩
noncomputable def C8r:Code:=(Tryz.f129.body).getD .skip
theorem C8q:Tryz.f129.body=some C8r:=rfl
def C4l:Tr:=aD [h 0 11]<|.dt 11 (.subs 1) [h 0 11,jI 6,h3 4]<|.dt 11 (.mk 1) [.int .u8 (27),.int .u8 (91),.int .u8 (50),.int .u8 (48),.int .u8 (49),.int .u8 (126)]<|.fn A9k [h 5 11,h 6 11] 2<|.br 8 (aD [h 7 11]<|.lt 3 (.min) [h3 9,jI 1000]<|.dt 11 (.subs 1) [h 7 11,jI 0,h3 10]<|.lt 9 (.str) [h 11 11]<|.fn A51 [h 12 9,.string ⟨⟨[27]⟩⟩,.string ⟨⟨[]⟩⟩] 1<|.dt 18 (.snoc 8) [h 2 18,jI 3,jI 0,jI 0,jI 0,jI 0,jI 0,jI 0,h 13 9]<|.dt 11 (.nilw 1) []<|.ret [jI 0,h 15 11,h 14 18,h 3 19]) (aD [h 5 11]<|aG [h3 9,jI 1006]<|.br 10 (.dt 11 (.subs 1) [h 0 11,jI 0,jI 1006]<|.dt 11 (.snoc 1) [h 11 11,.int .u8 (0)]<|.dt 11 (.subs 1) [h 0 11,jI 1008,h3 4]<|.dt 11 (.cat 1) [h 12 11,h 13 11]<|.ret [jI 0,h 14 11,h 2 18,h 3 19]) (.ret [jI 0,h 0 11,h 2 18,h 3 19]))
theorem C8p{G:Nat→Option Obj}(hst:B9 Tryz.prog G gl H0 n0):B1l Tryz.prog G gl 129 (A34 Tryz.prog Tryz.f129 gl n0 23 C4m A86):=by
 refine B2G (C:=cx C6M A4b) (dep:=60) (f:=129) (n0:=n0) (nB:=23) (H0:=H0) C4l (cxg (C1R hst) (A2I hst)) hst Tryz.func129 C8q (by kernel_rfl) (by kernel_rfl) (by kernel_rfl) ?_;intro us d outs hs;have hs0:=hs;unfold A86 at hs;split at hs
 ·skip;rename_i u_a u_p u_inp u_mp;have hq_a:=A6.1 hs;clear hs;obtain⟨a,hd_a,hs⟩:=hq_a;replace hd_a:=F2 hd_a;subst hd_a;have hq_p:=A6.1 hs;clear hs;obtain⟨p,hd_p,hs⟩:=hq_p;replace hd_p:=F2 hd_p;subst hd_p;have hq_inp:=A6.1 hs;clear hs;obtain⟨inp,hd_inp,hs⟩:=hq_inp;replace hd_inp:=F2 hd_inp;subst hd_inp;have hq_mp:=A6.1 hs;clear hs;obtain⟨mp,hd_mp,hs⟩:=hq_mp;replace hd_mp:=F2 hd_mp;subst hd_mp;split at hs
  ·rename_i hc;clear hs hs0;have z6:((el (K4 a (6:Int).toNat ((el a).length:Int).toNat)).length:Int)=(el (psT a)).length:=rfl;have z1:((el (psT a)).length:Int)=(el a).length-6:=by unfold psT;rw[K0,D5,C8];omega
   have z2:((el (sfP (psT a) peL)).length:Int)≤(el (psT a)).length:=C2J;have z3:((el (K4 (sfP (psT a) peL) (0:Int).toNat (min ((el (sfP (psT a) peL)).length:Int) 1000).toNat)).length:Int)≤(el (sfP (psT a) peL)).length:=A3r;have z4:((el (K4 a (0:Int).toNat (1006:Int).toNat)).length:Int)≤(el a).length:=A3r;have z5:((el (K4 a (1008:Int).toNat ((el a).length:Int).toNat)).length:Int)≤(el a).length:=A3r;refine⟨rfl,?_⟩;unfold C4l;refine w0 (.cons 3 _ (.cons 2 _ (.cons 1 _ (.cons 0 _ (.nil))))) ?_;repeat (first|refine w2 (.subs 1) (r:=rB) (e:=I8 rfl (by omega) (by omega) (by omega)) (k':=?_)|refine R2 ?_|refine w4 (fun g=>?_) fun g=>?_|refine w4B (fun g=>?_) fun g=>?_|(refine w7 [.int .i64 _,A8 rB _,A8 rI _,A8 rQ _] ?_;rotate_left)|refine w2 (.mk 1) (r:=rB) (e:=P2 [_,_,_,_,_,_] rfl (by decide) rfl) (k':=?_)|refine w32 A9k (e:=C3U (psT a) peL ⟨by omega,by decide,A4X hc.2.2.1,C80⟩) (k':=?_)|refine B1t ?_|refine w1 (.str) (e:=r8 rfl (by exact A4X (C61 (A4X hc.2.2.1)))) (k':=?_)|refine w31 A51 (e:=B6H _ _ _ ⟨by rw[X7];omega,rfl,rfl⟩) (k':=?_)|refine w2 (.snoc 8) (r:=rI) (e:=J7 (a:=(_,_,_,_,_,_,_,_)) rfl rfl (by decide) (by first|omega|(rw[F6,A7,C9];omega))) (k':=?_)|refine w2 (.nilw 1) (r:=rB) (e:=E5 rfl) (k':=?_)|refine A7y ?_|refine w2 (.snoc 1) (r:=rB) (e:=J7 rfl rfl (by decide) (by first|omega|(rw[F6,A7,C9];omega))) (k':=?_)|refine w2 (.cat 1) (r:=rB) (e:=B2c rfl (by first|omega|(rw[F6,A7,C9];omega))) (k':=?_))
   all_goals first
    | refine L6 (d:=0) ?_
      rw[B6Q a p inp mp hc];refine congrArg (fun z=>some (0,z)) ?_;first
      | exact A7a (C8t ‹_›)
      | exact A7a (C8v ‹_› ‹_›)
      | exact A7a (C8u ‹_› ‹_›)
  ·cases hs
 ·cases hs
def sqH(s:List UInt8):Nat:=if(s.length:Int)>24 then 4 else 1
def sqG(s:List UInt8)(b:Int):Nat:=if b≥32 then(if b≤63 then sqH s else 3)else 3
def sqF(s:List UInt8)(b:Int):Nat:=if Lib.hasPrefix s [27,91,77]=true then 2 else if b≥64 then(if b≤126 then 2 else sqG s b)else sqG s b
def sqE(s:List UInt8)(b:Int):Nat:=if s=[27,91,50,48,48,126]then 1 else sqF s b
def sqD(s:List UInt8)(b:Int):Nat:=if Lib.hasPrefix s [27,91,77]=true then(if(s.length:Int)<6 then 1 else sqE s b)else sqE s b
def sqC(s:List UInt8)(b:Int):Nat:=if Lib.hasPrefix s [27,91,50,48,48,126]=true then(if s≠[27,91,50,48,48,126]then 0 else sqD s b)else sqD s b
def sqP(a:Option (List Int))(b:Int):Option (List Int):=match sqC (iB (el a)) b with
 | 0=>psP a
 | 1=>a
 | 2=>none
 | 3=>fsP [] none b
 | _=>none
def sqI(a:Option (List Int))(b:Int)(mp:Option (List Qt))(l:Option (List (Int×Int×Int×Int×Int×Int×Int×List UInt8))):Option (List (Int×Int×Int×Int×Int×Int×Int×List UInt8)):=match sqC (iB (el a)) b with
 | 0=>psI a l
 | 1=>l
 | 2=>cmI (iB (el a)) mp l
 | 3=>fsI [] none b l
 | _=>l
theorem C8W{a:Option (List Int)}{b:Int}{mp:Option (List Qt)}{l:Option (List (Int×Int×Int×Int×Int×Int×Int×List UInt8))}(h:sqC (iB (el a)) b=0):psP a=sqP a b∧psI a l=sqI a b mp l:=by unfold sqP sqI;rw[h];exact⟨rfl,rfl⟩
theorem D0V{a:Option (List Int)}{b:Int}{mp:Option (List Qt)}{l:Option (List (Int×Int×Int×Int×Int×Int×Int×List UInt8))}(h:sqC (iB (el a)) b=1):a=sqP a b∧l=sqI a b mp l:=by unfold sqP sqI;rw[h];exact⟨rfl,rfl⟩
theorem D0U{a:Option (List Int)}{b:Int}{mp:Option (List Qt)}{l:Option (List (Int×Int×Int×Int×Int×Int×Int×List UInt8))}(h:sqC (iB (el a)) b=2):none=sqP a b∧cmI (iB (el a)) mp l=sqI a b mp l:=by unfold sqP sqI;rw[h];exact⟨rfl,rfl⟩
theorem D0T{a:Option (List Int)}{b:Int}{mp:Option (List Qt)}{l:Option (List (Int×Int×Int×Int×Int×Int×Int×List UInt8))}(h:sqC (iB (el a)) b=3):fsP [] none b=sqP a b∧fsI [] none b l=sqI a b mp l:=by unfold sqP sqI;rw[h];exact⟨rfl,rfl⟩
theorem D0S{a:Option (List Int)}{b:Int}{mp:Option (List Qt)}{l:Option (List (Int×Int×Int×Int×Int×Int×Int×List UInt8))}(h:sqC (iB (el a)) b=4):none=sqP a b∧l=sqI a b mp l:=by unfold sqP sqI;rw[h];exact⟨rfl,rfl⟩
theorem ntf{z:Bool}(h:z=false):¬z=true:=by rw[h];decide
theorem dq1{s:List UInt8}(h:¬s≠[27,91,50,48,48,126])(h2:Lib.hasPrefix s [27,91,77]=true):False:=by rw[D6.1 h]at h2;exact absurd h2 (by decide)
theorem dq2{s:List UInt8}(h:¬s≠[27,91,50,48,48,126])(h2:¬s=[27,91,50,48,48,126]):False:=h h2
theorem dq3{s:List UInt8}(h:Lib.hasPrefix s [27,91,50,48,48,126]=false)(h2:s=[27,91,50,48,48,126]):False:=by rw[h2]at h;exact absurd h (by decide)
theorem dq4{z:Bool}(h:z=true)(h2:z=false):False:=by rw[h]at h2;cases h2
theorem B5b:∀ {u s:List UInt8},Lib.hasPrefix s u=true→u.length≤s.length
 | [],_,_=>v7 _
 | _::_,[],h=>by cases h
 | a::u,b::s,h=>by
   have h:((a == b) && Lib.hasPrefix s u)=true:=h
   have:=B5b (L7 h).2;simp only[B6];omega
noncomputable def C6G:List (FuncId×FnC):=(50,I9 Tryz.prog [.a [8,8,8,8,8,8,8,8,8,8,8,3,8],.a [3,3,3,3,3,3,3,9]] j8 [.s 9])::(54,I9 Tryz.prog [.s 9,.s 9] y4 [.s 8])::(99,A34 Tryz.prog Tryz.f99 gl n0 21 C0D c8)::(105,A34 Tryz.prog Tryz.f105 gl n0 22 C0o A4R)::(129,A34 Tryz.prog Tryz.f129 gl n0 23 C4m A86)::L0
theorem C1L{G:Nat→Option Obj}(hst:B9 Tryz.prog G gl H0 n0):G4 Tryz.prog G gl C6G:=(.cons (A3b hst) (.cons (B6o hst) (.consM (C5S hst) (.consM (C5o hst) (.consM (C8p hst) .nil)))))
def A8o:List U→Option (Nat×List U)
 | [u_a,.int .u8 b,u_p,u_inp,u_mp]=>(J9 rB u_a).bind fun a=>(J9 rB u_p).bind fun p=>(J9 rI u_inp).bind fun inp=>(J9 rQ u_mp).bind fun mp=>if 3≤((el a).length:Int)∧((el a).length:Int)≤100000∧(∀ x ∈ el a,0≤x∧x<256)∧(0≤b∧b<256)∧(Lib.hasPrefix (iB (el a)) [27,91,60]=false∨4≤((el a).length:Int)∨b=60)∧((el inp).length:Int)≤900000 then some (0,[A8 rB (sqP a b),A8 rI (sqI a b mp inp),A8 rQ mp])else none
 | _=>none
theorem B6B(a:(Option (List Int)))(b:Int)(p:(Option (List Int)))(inp:(Option (List (Int×Int×Int×Int×Int×Int×Int×(List UInt8)))))(mp:(Option (List ((List UInt8)×Int×Int×Int×Int×Int×Int×Int×(List UInt8)))))(hc:3≤((el a).length:Int)∧((el a).length:Int)≤100000∧(∀ x ∈ el a,0≤x∧x<256)∧(0≤b∧b<256)∧(Lib.hasPrefix (iB (el a)) [27,91,60]=false∨4≤((el a).length:Int)∨b=60)∧((el inp).length:Int)≤900000):A8o [A8 rB a,.int .u8 b,A8 rB p,A8 rI inp,A8 rQ mp]=some (0,[A8 rB (sqP a b),A8 rI (sqI a b mp inp),A8 rQ mp]):=by
 simp only[A8o,G1,D4];exact if_pos hc
def C4O:Q9:=⟨[(0,.pointer (some ⟨9,0,none⟩)),(1,dat 33 0 11),(2,h 1 4)],[(9,.cells 83 [dat 34 2 11,.map (some 7),own 35 3 18]),(7,.mp 4 19 81),(35,.sq 3 18 23 36),(33,.frz),(34,.frz),(36,.frz)],5,[⟨.ret,[(0,.pointer (some ⟨9,0,none⟩))],[(9,.cells 83 [dat 37 0 11,.map (some 7),own 38 1 18]),(7,.mp 2 19 81),(38,.sq 1 18 23 39),(37,.frz),(39,.frz)],3⟩]⟩
noncomputable def C8V:Code:=(Tryz.f107.body).getD .skip
theorem C8U:Tryz.f107.body=some C8V:=rfl
def C4N:Tr:=.lt 9 (.str) [h 0 11]<|.fn y4 [h 5 9,.string ⟨⟨[27,91,50,48,48,126]⟩⟩] 1<|.br 6 (aN [h 5 9,.string ⟨⟨[27,91,50,48,48,126]⟩⟩]<|.br 7 (.fn A86 [h 0 11,h 2 11,h 3 18,h 4 19] 3<|.ret [jI 0,h 8 11,h 9 18,h 10 19]) (.fn y4 [h 5 9,.string ⟨⟨[27,91,77]⟩⟩] 1<|.br 8 (.no) (aE [h 5 9,.string ⟨⟨[27,91,50,48,48,126]⟩⟩]<|.br 9 (.ret [jI 0,h 0 11,h 3 18,h 4 19]) (.no)))) (.fn y4 [h 5 9,.string ⟨⟨[27,91,77]⟩⟩] 1<|.br 7 (aD [h 5 9]<|aL [h3 8,jI 6]<|.br 9 (.ret [jI 0,h 0 11,h 3 18,h 4 19]) (aE [h 5 9,.string ⟨⟨[27,91,50,48,48,126]⟩⟩]<|.br 10 (.no) (.fn y4 [h 5 9,.string ⟨⟨[27,91,77]⟩⟩] 1<|.br 11 (.fn A4R [h 5 9,h 2 11,h 3 18,h 4 19] 3<|.ret [jI 0,h 12 11,h 13 18,h 14 19]) (.no)))) (aE [h 5 9,.string ⟨⟨[27,91,50,48,48,126]⟩⟩]<|.br 8 (.no) (.fn y4 [h 5 9,.string ⟨⟨[27,91,77]⟩⟩] 1<|.br 9 (.no) (.lt 3 (.conv .i64) [h 1 4]<|aH [h3 10,jI 64]<|.br 11 (aQ [h3 10,jI 126]<|.br 12 (.fn A4R [h 5 9,h 2 11,h 3 18,h 4 19] 3<|.ret [jI 0,h 13 11,h 14 18,h 15 19]) (.lt 3 (.conv .i64) [h 1 4]<|aH [h3 13,jI 32]<|.br 14 (aQ [h3 13,jI 63]<|aX [h 15 8]<|.br 16 (.dt 11 (.nilw 1) []<|.fn c8 [.string ⟨⟨[]⟩⟩,h 17 11,h 1 4,h 2 11,h 3 18,h 4 19] 3<|.ret [jI 0,h 18 11,h 19 18,h 20 19]) (aD [h 5 9]<|aG [h3 17,jI 24]<|.br 18 (.dt 11 (.nilw 1) []<|.ret [jI 0,h 19 11,h 3 18,h 4 19]) (.ret [jI 0,h 0 11,h 3 18,h 4 19]))) (.dt 11 (.nilw 1) []<|.fn c8 [.string ⟨⟨[]⟩⟩,h 15 11,h 1 4,h 2 11,h 3 18,h 4 19] 3<|.ret [jI 0,h 16 11,h 17 18,h 18 19]))) (.lt 3 (.conv .i64) [h 1 4]<|aH [h3 12,jI 32]<|.br 13 (aQ [h3 12,jI 63]<|aX [h 14 8]<|.br 15 (.dt 11 (.nilw 1) []<|.fn c8 [.string ⟨⟨[]⟩⟩,h 16 11,h 1 4,h 2 11,h 3 18,h 4 19] 3<|.ret [jI 0,h 17 11,h 18 18,h 19 19]) (aD [h 5 9]<|aG [h3 16,jI 24]<|.br 17 (.dt 11 (.nilw 1) []<|.ret [jI 0,h 18 11,h 3 18,h 4 19]) (.ret [jI 0,h 0 11,h 3 18,h 4 19]))) (.dt 11 (.nilw 1) []<|.fn c8 [.string ⟨⟨[]⟩⟩,h 14 11,h 1 4,h 2 11,h 3 18,h 4 19] 3<|.ret [jI 0,h 15 11,h 16 18,h 17 19]))))))
theorem C8T{G:Nat→Option Obj}(hst:B9 Tryz.prog G gl H0 n0):B1l Tryz.prog G gl 107 (A34 Tryz.prog Tryz.f107 gl n0 40 C4O A8o):=by
 refine B2G (C:=cx C6G A4b) (dep:=60) (f:=107) (n0:=n0) (nB:=40) (H0:=H0) C4N (cxg (C1L hst) (A2I hst)) hst Tryz.func107 C8U (by kernel_rfl) (by kernel_rfl) (by kernel_rfl) ?_;intro us d outs hs;have hs0:=hs;unfold A8o at hs;split at hs
 ·skip;rename_i u_a b u_p u_inp u_mp;have hq_a:=A6.1 hs;clear hs;obtain⟨a,hd_a,hs⟩:=hq_a;replace hd_a:=F2 hd_a;subst hd_a;have hq_p:=A6.1 hs;clear hs;obtain⟨p,hd_p,hs⟩:=hq_p;replace hd_p:=F2 hd_p;subst hd_p;have hq_inp:=A6.1 hs;clear hs;obtain⟨inp,hd_inp,hs⟩:=hq_inp;replace hd_inp:=F2 hd_inp;subst hd_inp;have hq_mp:=A6.1 hs;clear hs;obtain⟨mp,hd_mp,hs⟩:=hq_mp;replace hd_mp:=F2 hd_mp;subst hd_mp;split at hs
  ·rename_i hc;clear hs hs0;have zs:((iB (el a)).length:Int)=((el a).length:Int):=by rw[X7]
   refine⟨rfl,?_⟩;unfold C4N;refine w0 (.cons 4 _ (.cons 3 _ (.cons 2 _ (.cons 1 _ (.cons 0 _ (.nil)))))) ?_;repeat (first|refine w4 (fun g=>?_) fun g=>?_|refine w4B (fun g=>?_) fun g=>?_|(refine w7 [.int .i64 _,A8 rB _,A8 rI _,A8 rQ _] ?_;rotate_left)|(refine w8 ?_;(first|exact dq1 ‹_› ‹_›|exact dq2 ‹_› ‹_›|exact dq3 ‹_› ‹_›|exact dq4 ‹_› ‹_›))|refine t8 ?_|refine Y6 ?_|refine w2 (.nilw 1) (r:=rB) (e:=E5 rfl) (k':=?_)|refine w31 y4 (e:=A8N _ _) (k':=?_)|(refine w3 c8 (e:=A2D [] none b p inp mp ⟨.inl rfl,⟨by decide,.inl rfl,by omega,by omega,fun x hx=>by cases hx⟩,by omega⟩) (k':=?_);show Wk _ _ (.cons _ _ (.cons _ _ (.cons _ _ _))))|refine C2B ?_|refine B3C ?_|refine A2d ?_|refine A5K ?_|(refine w3 A4R (e:=B2k _ p inp mp ⟨.inr ⟨by omega,hc.2.2.2.2.1.imp id fun h=>by omega,(by first|exact .inl ‹_›|exact .inr (by omega)),by omega⟩,by omega⟩) (k':=?_);show Wk _ _ (.cons _ _ (.cons _ _ (.cons _ _ _))))|refine m9 ?_|refine A7y ?_|refine w1 (.str) (e:=r8 rfl (by exact hc.2.2.1)) (k':=?_)|refine A6m ?_|(refine w3 A86 (e:=B6Q a p inp mp ⟨by have:=B5b (u:=[27,91,50,48,48,126]) (s:=iB (el a)) ‹_›;simp only[B6,D9]at this;omega,by omega,hc.2.2.1,by omega⟩) (k':=?_);show Wk _ _ (.cons _ _ (.cons _ _ (.cons _ _ _))))|refine A1U ?_)
   all_goals first
    | refine L6 (d:=0) ?_
      rw[B6B a b p inp mp hc];refine congrArg (fun z=>some (0,z)) ?_;first
      | exact A7a (C8W (by unfold sqC sqD sqE sqF sqG sqH;repeat (first|rw[if_pos ‹_›]|rw[if_neg (ntf ‹_›)]|rw[if_neg ‹_›]|rw[if_pos (by omega)]|rw[if_neg (by omega)])))
      | exact A7a (D0V (by unfold sqC sqD sqE sqF sqG sqH;repeat (first|rw[if_pos ‹_›]|rw[if_neg (ntf ‹_›)]|rw[if_neg ‹_›]|rw[if_pos (by omega)]|rw[if_neg (by omega)])))
      | exact A7a (D0U (by unfold sqC sqD sqE sqF sqG sqH;repeat (first|rw[if_pos ‹_›]|rw[if_neg (ntf ‹_›)]|rw[if_neg ‹_›]|rw[if_pos (by omega)]|rw[if_neg (by omega)])))
      | exact A7a (D0T (by unfold sqC sqD sqE sqF sqG sqH;repeat (first|rw[if_pos ‹_›]|rw[if_neg (ntf ‹_›)]|rw[if_neg ‹_›]|rw[if_pos (by omega)]|rw[if_neg (by omega)])))
      | exact A7a (D0S (by unfold sqC sqD sqE sqF sqG sqH;repeat (first|rw[if_pos ‹_›]|rw[if_neg (ntf ‹_›)]|rw[if_neg ‹_›]|rw[if_pos (by omega)]|rw[if_neg (by omega)])))
  ·cases hs
 ·cases hs
abbrev Xt:=(Int×Int×Int×Int×Int×Int×Int×List UInt8)
def By(l:List Int):Prop:=∀ x ∈ l,0≤x∧x<256
def Iv(p:Option (List Int)):Prop:=((el p).length:Int)≤1012∧(∀ x ∈ el p,0≤x∧x<256)∧(el p=[]∨knd (el p)=1∨((el p).getD 0 0=27∧(((el p).length:Int)=1∨(2≤((el p).length:Int)∧((el p).getD 1 0<128∨knd ((el p).drop 1)=1)))))
instance(p:Option (List Int)):Decidable (Iv p):=by unfold Iv;infer_instance
def stP(p:Option (List Int))(b:Int):Option (List Int) :=
 if((el p).length:Int)=0 then fsP [] p b
 else if(el p).getD 0 0≥128 then fsP [] p b
 else if iB (el p)≠[27]then
  if(el p).getD 1 0≥128 then fsP [27] (K4 p 1 (el p).length) b
  else if Lib.hasPrefix (iB (el p)) [27,79]=true then(if b≥64 then(if b≤126 then none else fsP [] none b)else fsP [] none b)
  else sqP (some (el p++[b])) b
 else if b=27 then p else if b=91 then some (el p++[b])else if b=79 then some (el p++[b])else fsP [27] none b
def stI(p:Option (List Int))(b:Int)(mp:Option (List Qt))(l:Option (List Xt)):Option (List Xt) :=
 if((el p).length:Int)=0 then fsI [] p b l
 else if(el p).getD 0 0≥128 then fsI [] p b l
 else if iB (el p)≠[27]then
  if(el p).getD 1 0≥128 then fsI [27] (K4 p 1 (el p).length) b l
  else if Lib.hasPrefix (iB (el p)) [27,79]=true then(if b≥64 then(if b≤126 then cmI (iB (el p++[b])) mp l else fsI [] none b l)else fsI [] none b l)
  else sqI (some (el p++[b])) b mp l
 else if b=27 then some (el l++[(1,1114138,0,0,0,0,0,[])])else if b=91 then l else if b=79 then l else fsI [27] none b l
def rnP:List Int→Option (List Int)→Option (List Int)
 | [],p=>p
 | b::r,p=>rnP r (stP p b)
def rnI:List Int→Option (List Int)→Option (List Qt)→Option (List Xt)→Option (List Xt)
 | [],_,_,l=>l
 | b::r,p,mp,l=>rnI r (stP p b) mp (stI p b mp l)
theorem C8i{l:List Int}{i:Int}{p:Option (List Int)}(h:¬i<(l.length:Int)):rnP (l.drop i.toNat) p=p:=by rw[A1r l (by omega)];rfl
theorem C8j{l:List Int}{i:Int}{p:Option (List Int)}{mp:Option (List Qt)}{x:Option (List Xt)}(h:¬i<(l.length:Int)):rnI (l.drop i.toNat) p mp x=x:=by rw[A1r l (by omega)];rfl
theorem A3v{l:List Int}{i:Int}(p:Option (List Int))(h0:0≤i)(h1:i<(l.length:Int)):rnP (l.drop i.toNat) p=rnP (l.drop (i+1).toNat) (stP p (l.getD i.toNat default)):=by rw[Y5 l h0 h1];rfl
theorem A3w{l:List Int}{i:Int}(p:Option (List Int))(mp:Option (List Qt))(x:Option (List Xt))(h0:0≤i)(h1:i<(l.length:Int)):rnI (l.drop i.toNat) p mp x=rnI (l.drop (i+1).toNat) (stP p (l.getD i.toNat default)) mp (stI p (l.getD i.toNat default) mp x):=by rw[Y5 l h0 h1];rfl
theorem B08{l:List Int}(hne:l≠[])(h:knd l=1):128≤l.getD 0 0:=by
 have h5:1≤l.length:=W4.2 hne;unfold knd at h;split at h
 ·omega
 ·split at h
  ·split at h
   ·rename_i h4;have hl:1<S9 (l.getD 0 0):=by omega
    unfold S9 at hl;(repeat' split at hl)<;>omega
   ·omega
  ·omega
theorem A3M{l:List Int}{b:Int}(h:By l)(h0:0≤b)(h1:b<256):By (l++[b]):=fun x hx=>by
 rcases B1.1 hx with hx|hx
 ·exact h x hx
 ·have:x=b:=by simpa using hx
  omega
theorem C3f{b:Int}(h0:0≤b)(h1:b<256):By [b]:=fun x hx=>by
 have:x=b:=by simpa using hx
 omega
theorem i6:Iv none:=⟨by decide,fun x hx=>(by cases hx),.inl rfl⟩
theorem C5B:Iv (some [27]):=⟨by decide,C3f (by decide) (by decide),.inr (.inr ⟨rfl,.inl rfl⟩)⟩
theorem C9b{x:List Int}(h:knd x=1)(hb:By x):Iv (some x):=⟨by have:=A4C h;show(x.length:Int)≤_;omega,hb,.inr (.inl h)⟩
theorem C7U{x:List Int}(h4:x≠[])(h:knd x=1)(hb:By x):Iv (some (27::x)):=by
 have h3:=A4C h;have h5:1≤x.length:=W4.2 h4;refine⟨?_,?_,.inr (.inr ⟨rfl,.inr ⟨?_,.inr h⟩⟩)⟩
 ·show((27::x).length:Int)≤_;simp only[B6];omega
 ·intro y hy;rcases B7.1 hy with rfl|hy
  ·omega
  ·exact hb y hy
 ·show 2≤((27::x).length:Int);simp only[B6];omega
theorem C8N{l:List Int}{b:Int}(hl:By l)(h0:0≤b)(h1:b<256):utR l b=none∨∃ x,utR l b=some x∧knd x=1∧By x∧x≠[]:=by
 unfold utR;split
 ·exact .inl rfl
 ·split
  ·rename_i h;exact .inr ⟨_,rfl,h,A3M hl h0 h1,by simp⟩
  ·split
   ·exact .inl rfl
   ·unfold B7R;split
    ·rename_i h;exact .inr ⟨_,rfl,h,C3f h0 h1,by simp⟩
    ·exact .inl rfl
theorem C3b:∀ (l:List Int) (p:Option (List Int)),cP l p=p∨cP l p=none∨cP l p=some [27]
 | [],p=>.inl rfl
 | c::r,p=>by
   unfold cP;split
   ·split
    ·rcases C3b r (some [27])with h|h|h
     ·exact .inr (.inr h)
     ·exact .inr (.inl h)
     ·exact .inr (.inr h)
    ·rcases C3b r none with h|h|h
     ·exact .inr (.inl h)
     ·exact .inr (.inl h)
     ·exact .inr (.inr h)
   ·exact C3b r p
theorem B1D{f:List UInt8}{q:Option (List Int)}{b:Int}(hf:f=[]∨f=[27])(hq:By (el q))(h0:0≤b)(h1:b<256):Iv (fsP f q b):=by
 unfold fsP;split
 ·exact C5B
 ·split
  ·exact i6
  ·have hu:=C8N (l:=el q) hq h0 h1;split
   ·rcases hu with h|⟨x,h,hk,hx,hne⟩
    ·rw[h];exact i6
    ·rw[h];exact C9b hk hx
   ·have hf1:Iv (fs1 f (utR (el q) b)):=by
     unfold fs1;split
     ·rcases hu with h|⟨x,h,hk,hx,hne⟩
      ·rename_i h2;rw[h]at h2;exact absurd h2 (by decide)
      ·rw[h];rcases hf with rfl|rfl
       ·show Iv (A6Y (some []) (some x));cases x with
        | nil=>exact absurd rfl hne
        | cons a r=>exact C9b hk hx
       ·show Iv (A6Y (some [27]) (some x));cases x with
        | nil=>exact absurd rfl hne
        | cons a r=>exact C7U hne hk hx
     ·exact i6
    rcases C3b (el (utC (el q) b)) (fs1 f (utR (el q) b))with h|h|h
    ·rw[h];exact hf1
    ·rw[h];exact i6
    ·rw[h];exact C5B
theorem A9J{l:List Int}(hl:(l.length:Int)≤1012)(hb:By l)(h2:2≤(l.length:Int))(h27:l.getD 0 0=27)(h128:l.getD 1 0<128):Iv (some l):=⟨hl,hb,.inr (.inr ⟨h27,.inr ⟨h2,.inl h128⟩⟩)⟩
theorem A2n{l r:List Int}{i:Nat}(h:i<l.length):(l++r).getD i 0=l.getD i 0:=by
 simp[B5,E0 h]
theorem C9Z{l:List Int}{b:Int}(hl:(l.length:Int)≤1012)(hb:By l)(h2:6≤(l.length:Int)+1)(h27:l.getD 0 0=27)(h128:l.getD 1 0<128)(h0:0≤b)(h1:b<256):Iv (psP (some (l++[b]))):=by
 have hb2:=A3M hb h0 h1;have e0:(l++[b]).getD 0 0=27:=by rw[A2n (by omega)];exact h27
 have e1:(l++[b]).getD 1 0<128:=by rw[A2n (by omega)];exact h128
 have hlen:((l++[b]).length:Int)=l.length+1:=by simp
 have ht:((el (psT (some (l++[b])))).length:Int)=(l.length:Int)+1-6:=by
  unfold psT;rw[K0,D5,C8];simp only[F6];omega
 unfold psP;split
 ·exact i6
 ·split
  ·rename_i h3;rw[ht]at h3;have hl2:l.length=1012:=by omega
   have ex:∃ s,K4 (some (l++[b])) (1008:Int).toNat ((el (some (l++[b]))).length:Int).toNat=s:=⟨_,rfl⟩;obtain⟨s,hs⟩:=ex;have hse:el s=((l++[b]).drop 1008):=by
    rw[← hs,K0];show(((l++[b]).drop 1008).take _)=_;exact F8 (by simp only[C8,F6];omega)
   rw[hs];have hf:el (K4 (some (l++[b])) (0:Int).toNat (1006:Int).toNat)=(l++[b]).take 1006:=by rw[K0];rfl
   rw[hf];have hcat:el (A6Y (some ((l++[b]).take 1006++[0])) s)=(l++[b]).take 1006++[0]++(l++[b]).drop 1008:=by rw[B6z,hse,F6]
   have hsome:∃ z,A6Y (some ((l++[b]).take 1006++[0])) s=some z∧z=(l++[b]).take 1006++[0]++(l++[b]).drop 1008:=by
    cases hq:A6Y (some ((l++[b]).take 1006++[0])) s with
    | none=>rw[hq]at hcat;have:=congrArg List.length hcat;simp[el]at this
    | some z=>exact⟨z,rfl,by rw[hq]at hcat;exact hcat⟩
   obtain⟨z,hz,rfl⟩:=hsome;rw[hz];have g:∀ i:Nat,i<1006→((l++[b]).take 1006++[0]++(l++[b]).drop 1008).getD i 0=(l++[b]).getD i 0:=fun i hi=>by
    rw[H1,A2n (by rw[D5];omega)];simp[B5,List.getElem?_take,hi]
   refine A9J ?_ ?_ ?_ ?_ ?_
   ·simp only[A7,D5,C8,C9];omega
   ·intro x hx;rcases B1.1 hx with hx|hx
    ·rcases B1.1 hx with hx|hx
     ·exact hb2 x (O2 hx)
     ·have:x=0:=by simpa using hx
      omega
    ·exact hb2 x (K2 hx)
   ·simp only[A7,D5,C8,C9];omega
   ·rw[g 0 (by decide)];exact e0
   ·rw[g 1 (by decide)];exact e1
  ·rename_i h3;rw[ht]at h3;exact A9J (by omega) hb2 (by omega) e0 e1
theorem A1M(l:List Int):(iB l).length=l.length:=by unfold iB;simp
theorem C9Y{l:List Int}{b:Int}(hl:(l.length:Int)≤1012)(hb:By l)(h2:2≤(l.length:Int))(h27:l.getD 0 0=27)(h128:l.getD 1 0<128)(h0:0≤b)(h1:b<256):Iv (sqP (some (l++[b])) b):=by
 have hb2:=A3M hb h0 h1;have e0:(l++[b]).getD 0 0=27:=by rw[A2n (by omega)];exact h27
 have e1:(l++[b]).getD 1 0<128:=by rw[A2n (by omega)];exact h128
 have hlen:((iB (l++[b])).length:Int)=l.length+1:=by rw[A1M];simp
 have hw:((iB (l++[b])).length:Int)≤24→Iv (some (l++[b])):=fun h=>A9J (by rw[A1M]at h;omega) hb2 (by rw[A1M]at hlen;omega) e0 e1
 have hn:Iv (none:Option (List Int)):=i6;have hf:Iv (fsP [] none b):=B1D (.inl rfl) (fun x hx=>by cases hx) h0 h1;have k0:∀ k,sqC (iB (l++[b])) b=k→(k=0→6≤((iB (l++[b])).length:Int))∧(k=1→((iB (l++[b])).length:Int)≤24):=by
  intro k hk;have hC:∀ k,sqH (iB (l++[b]))=k→(k=0→False)∧(k=1→((iB (l++[b])).length:Int)≤24):=by
   intro k hk;unfold sqH at hk;split at hk<;>subst hk<;>exact⟨fun h=>(by cases h),fun h=>by first|(cases h;done)|omega⟩
  have hG:∀ k,sqG (iB (l++[b])) b=k→(k=0→False)∧(k=1→((iB (l++[b])).length:Int)≤24):=by
   intro k hk;unfold sqG at hk;split at hk
   ·split at hk
    ·exact hC k hk
    ·subst hk;exact⟨fun h=>(by cases h),fun h=>by cases h⟩
   ·subst hk;exact⟨fun h=>(by cases h),fun h=>by cases h⟩
  have hF:∀ k,sqF (iB (l++[b])) b=k→(k=0→False)∧(k=1→((iB (l++[b])).length:Int)≤24):=by
   intro k hk;unfold sqF at hk;split at hk
   ·subst hk;exact⟨fun h=>(by cases h),fun h=>by cases h⟩
   ·split at hk
    ·split at hk
     ·subst hk;exact⟨fun h=>(by cases h),fun h=>by cases h⟩
     ·exact hG k hk
    ·exact hG k hk
  have hE:∀ k,sqE (iB (l++[b])) b=k→(k=0→False)∧(k=1→((iB (l++[b])).length:Int)≤24):=by
   intro k hk;unfold sqE at hk;split at hk
   ·rename_i h;subst hk;exact⟨fun h=>(by cases h),fun _=>by rw[h];decide⟩
   ·exact hF k hk
  have hD:∀ k,sqD (iB (l++[b])) b=k→(k=0→False)∧(k=1→((iB (l++[b])).length:Int)≤24):=by
   intro k hk;unfold sqD at hk;split at hk
   ·split at hk
    ·subst hk;exact⟨fun h=>(by cases h),fun _=>by omega⟩
    ·exact hE k hk
   ·exact hE k hk
  unfold sqC at hk;split at hk
  ·rename_i hp;split at hk
   ·subst hk;exact⟨fun _=>by have:=B5b hp;simp only[B6,D9]at this;omega,fun h=>by cases h⟩
   ·exact⟨fun h=>((hD k hk).1 h).elim,(hD k hk).2⟩
  ·exact⟨fun h=>((hD k hk).1 h).elim,(hD k hk).2⟩
 unfold sqP;show Iv (match sqC (iB (l++[b])) b with|0=>psP (some (l++[b]))|1=>some (l++[b])|2=>none|3=>fsP [] none b|_=>none)
 match h:sqC (iB (l++[b])) b with
 | 0=>exact C9Z hl hb (by have:=(k0 0 h).1 rfl;omega) h27 h128 h0 h1
 | 1=>exact hw ((k0 1 h).2 rfl)
 | 2=>exact hn
 | 3=>exact hf
 | k+4=>exact hn
theorem C9l{l:List Int}(hb:By l)(h:iB l=[27]):l=[27]:=by
 match l,hb,h with
 | [],_,h=>cases h
 | [a],hb,h =>
   have h:[UInt8.ofNat a.toNat]=[27]:=h;have h:=(List.cons.inj h).1;have ha:=hb a (by simp);have h2:=congrArg UInt8.toNat h;have h3:(UInt8.ofNat a.toNat).toNat=a.toNat:=by rw[UInt8.toNat_ofNat'];exact Q5 (by omega)
   rw[h3]at h2;have h4:(27:UInt8).toNat=27:=rfl;rw[h4]at h2;have:a=27:=by omega
   rw[this]
 | a::c::r,_,h=>simp[iB]at h
theorem A3Z{p:Option (List Int)}{b:Int}(h:Iv p)(h0:0≤b)(h1:b<256):Iv (stP p b):=by
 obtain⟨hl,hb,hf⟩:=h;have hn:Iv (fsP [] none b):=B1D (.inl rfl) (fun x hx=>by cases hx) h0 h1;unfold stP;split
 ·exact B1D (.inl rfl) hb h0 h1
 ·split
  ·exact B1D (.inl rfl) hb h0 h1
  ·rename_i hz hlo;have h27:(el p).getD 0 0=27∧(((el p).length:Int)=1∨(2≤((el p).length:Int)∧((el p).getD 1 0<128∨knd ((el p).drop 1)=1))):=by
    rcases hf with hf|hf|hf
    ·rw[hf]at hz;exact absurd rfl hz
    ·exact absurd (B08 (fun e=>hz (by rw[e];rfl)) hf) hlo
    ·exact hf
   split
   ·rename_i hne;have h2:2≤((el p).length:Int):=by
     rcases h27.2 with h|h
     ·exfalso;have:el p=[27]:=by
       match hq:el p with
       | []=>rw[hq]at h;cases h
       | [a]=>rw[hq]at h27;have:=h27.1;simp at this;rw[this]
       | a::c::r=>rw[hq]at h;simp at h;omega
      exact hne (by rw[this];rfl)
     ·exact h.1
    split
    ·exact B1D (.inr rfl) (fun x hx=>by rw[K0]at hx;exact hb x (K2 (O2 hx))) h0 h1
    ·rename_i h128;split
     ·split
      ·split
       ·exact i6
       ·exact hn
      ·exact hn
     ·exact C9Y hl hb h2 h27.1 (by omega) h0 h1
   ·rename_i he;have he:=C9l hb (D6.1 he);split
    ·exact⟨hl,hb,hf⟩
    ·split
     ·rename_i e;rw[he,e];exact A9J (by decide) (A3M (C3f (by decide) (by decide)) (by decide) (by decide)) (by decide) rfl (by decide)
     ·split
      ·rename_i e;rw[he,e];exact A9J (by decide) (A3M (C3f (by decide) (by decide)) (by decide) (by decide)) (by decide) rfl (by decide)
      ·exact B1D (.inr rfl) (fun x hx=>by cases hx) h0 h1
theorem A9u:∀ (l:List Int) (m:Int) (x:Option (List Xt)),((el (cI l m x)).length:Int)≤(el x).length+l.length
 | [],_,x=>by show((el x).length:Int)≤_;simp
 | c::r,m,x=>by
   have e:∀ y:Xt,((el (some (el x++[y]))).length:Int)=(el x).length+1:=fun y=>by rw[F6];simp
   unfold cI;split
   ·split
    ·have:=A9u r 0 x;simp only[B6];omega
    ·have:=A9u r 0 (some (el x++[ipK (plC c) (plM c)]));rw[e]at this;simp only[B6];omega
   ·split
    ·have:=A9u r 0 (some (el x++[ipK c m]));rw[e]at this;simp only[B6];omega
    ·have:=A9u r 0 x;simp only[B6];omega
theorem A3G{f:List UInt8}{q:Option (List Int)}{b:Int}{x:Option (List Xt)}:((el (fsI f q b x)).length:Int)≤(el x).length+2:=by
 unfold fsI;split
 ·omega
 ·split
  ·rw[F6];simp<;>omega
  ·have:=A9u (el (utC (el q) b)) ((f.length:Int)*2) x
   have:=B55 (l:=el q) (b:=b);omega
theorem B6_{s:List UInt8}{mp:Option (List Qt)}{x:Option (List Xt)}:((el (cmI s mp x)).length:Int)≤(el x).length+2:=by
 unfold cmI;split
 ·rw[F6];simp<;>omega
 ·omega
theorem C2X{a:Option (List Int)}{x:Option (List Xt)}:((el (psI a x)).length:Int)≤(el x).length+2:=by
 unfold psI;split
 ·rw[F6];simp<;>omega
 ·omega
theorem C2H{a:Option (List Int)}{b:Int}{mp:Option (List Qt)}{x:Option (List Xt)}:((el (sqI a b mp x)).length:Int)≤(el x).length+2:=by
 unfold sqI;split
 ·exact C2X
 ·omega
 ·exact B6_
 ·exact A3G
 ·omega
theorem q8{p:Option (List Int)}{b:Int}{mp:Option (List Qt)}{x:Option (List Xt)}:((el (stI p b mp x)).length:Int)≤(el x).length+2:=by
 unfold stI;split
 ·exact A3G
 ·split
  ·exact A3G
  ·split
   ·split
    ·exact A3G
    ·split
     ·split
      ·split
       ·exact B6_
       ·exact A3G
      ·exact A3G
     ·exact C2H
   ·split
    ·rw[F6,A7,C9];omega
    ·split
     ·omega
     ·split
      ·omega
      ·exact A3G
end Go.Proofs.YtdimocjaepnifaaGreatDoor
