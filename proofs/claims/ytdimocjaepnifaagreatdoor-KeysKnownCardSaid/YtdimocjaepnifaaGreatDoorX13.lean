/- The law KeysKnown: for every input the call returns true, and the arguments read behind it as they read before. No condition. -/
import Derived.Test.YtdimocjaepnifaaGreatDoorX12
namespace Go.Proofs.YtdimocjaepnifaaGreatDoor
set_option linter.all false
open Go Go.Sx
set_option maxRecDepth 100000
set_option maxHeartbeats 4000000
set_option linter.unusedVariables false
set_option linter.unusedSimpArgs false
def dgT(s:List UInt8):List UInt8:=((Lib.trimPrefix s [27,91,60]).drop (0:Int).toNat).take ((((Lib.trimPrefix s [27,91,60]).length:Int)-1).toNat-(0:Int).toNat)
def mdG(s:List UInt8):Bool:=!Lib.hasPrefix s [27,91,77]
def mdP(s:List UInt8):Bool:=if mdG s=true then Lib.hasPrefix s [27,91,60] && decide ((K8 (dgT s)).2=0)else true
def byA(s:List UInt8)(i:Int):Int:=((s.getD i.toNat 0).toNat:Int)
def mdN(s:List UInt8):Int:=if mdG s=true then i7 (K8 (dgT s)).1 0 0 else byA s 3-32
def mdC(s:List UInt8):Int:=if mdG s=true then i7 (K8 (dgT s)).1 1 0-1 else byA s 4-33
def mdR(s:List UInt8):Int:=if mdG s=true then i7 (K8 (dgT s)).1 2 0-1 else byA s 5-33
def mdL(s:List UInt8):Int:=byA s ((s.length:Int)-1)
def mdW(g:Bool)(n l:Int):Int:=if n / 64%2*64≠0 then 3 else if n / 32%2*32≠0 then 2 else if(g=true∧l=109)∨(g=false∧n%4=3)then 1 else 0
def mdV(s:List UInt8):Int:=mdW (mdG s) (mdN s) (mdL s)
def mdB(s:List UInt8):Bool:=mdP s && (decide (A25 2 0 (mdN s / 4%8) (mdV s) (mdN s%4) (mdR s) (mdC s) []) && decide (moS (mdG s) (mdN s / 4%8) (mdV s) (mdN s%4) (mdR s) (mdC s)=s))
theorem C4e{s:List UInt8}(h:mdP s=false):mdB s=false:=by unfold mdB;rw[h];rfl
theorem A7e{s:List UInt8}{n w r c:Int}(e1:mdN s=n)(e2:mdV s=w)(e3:mdR s=r)(e4:mdC s=c)(h:¬A25 2 0 (n / 4%8) w (n%4) r c []):mdB s=false:=by
 unfold mdB;rw[e1,e2,e3,e4,decide_eq_false h,Z6,S5]
theorem A7d{s:List UInt8}{g:Bool}{n w r c:Int}(e0:mdG s=g)(e1:mdN s=n)(e2:mdV s=w)(e3:mdR s=r)(e4:mdC s=c)(h:moS g (n / 4%8) w (n%4) r c≠s):mdB s=false:=by
 unfold mdB;rw[e0,e1,e2,e3,e4,decide_eq_false h,S5,S5]
theorem B3e{s:List UInt8}{g:Bool}{n w r c:Int}(e0:mdG s=g)(e1:mdN s=n)(e2:mdV s=w)(e3:mdR s=r)(e4:mdC s=c)(hp:mdP s=true)(h2:A25 2 0 (n / 4%8) w (n%4) r c [])(h:¬moS g (n / 4%8) w (n%4) r c≠s):mdB s=true:=by
 unfold mdB;rw[hp,e0,e1,e2,e3,e4,decide_eq_true h2,decide_eq_true (C6.1 h)];rfl
theorem A7f{p:Prop}[Decidable p](h:(if p then(0:Int)else 430)≠0):¬p:=fun k=>h (if_pos k)
theorem w9{p:Prop}[Decidable p](h:¬(if p then(0:Int)else 430)≠0):p:=by
 by_cases k:p
 ·exact k
 ·rw[if_neg k]at h;exact absurd (by decide) h
theorem A7u{s:List UInt8}(h:mdG s=true):mdN s=i7 (K8 (dgT s)).1 0 0∧mdC s=i7 (K8 (dgT s)).1 1 0-1∧mdR s=i7 (K8 (dgT s)).1 2 0-1:=⟨if_pos h,if_pos h,if_pos h⟩
theorem A7v{s:List UInt8}(h:mdG s=false):mdN s=byA s 3-32∧mdC s=byA s 4-33∧mdR s=byA s 5-33:=⟨if_neg (by rw[h];decide),if_neg (by rw[h];decide),if_neg (by rw[h];decide)⟩
theorem w_3{s:List UInt8}{n:Int}(e:mdN s=n)(h:n / 64%2*64≠0):mdV s=3:=by unfold mdV mdW;rw[e,if_pos h]
theorem w_2{s:List UInt8}{n:Int}(e:mdN s=n)(h:¬n / 64%2*64≠0)(h2:n / 32%2*32≠0):mdV s=2:=by unfold mdV mdW;rw[e,if_neg h,if_pos h2]
theorem w_1{s:List UInt8}{n:Int}(e:mdN s=n)(h:¬n / 64%2*64≠0)(h2:¬n / 32%2*32≠0)(h3:(mdG s=true∧mdL s=109)∨(mdG s=false∧n%4=3)):mdV s=1:=by unfold mdV mdW;rw[e,if_neg h,if_neg h2,if_pos h3]
theorem w_0{s:List UInt8}{n:Int}(e:mdN s=n)(h:¬n / 64%2*64≠0)(h2:¬n / 32%2*32≠0)(h3:¬((mdG s=true∧mdL s=109)∨(mdG s=false∧n%4=3))):mdV s=0:=by unfold mdV mdW;rw[e,if_neg h,if_neg h2,if_neg h3]
theorem C7e{s:List UInt8}(h:Lib.hasPrefix s [27,91,60]=true)(h4:4≤(s.length:Int)):1≤((Lib.trimPrefix s [27,91,60]).length:Int)∧((Lib.trimPrefix s [27,91,60]).length:Int)≤(s.length:Int):=by
 unfold Lib.trimPrefix;rw[if_pos h,D3];show 1≤(((s.length-3:Nat)):Int)∧(((s.length-3:Nat)):Int)≤_;omega
theorem l9{b1 b2 b3 b4 b5 b6 b7 a1 a2 a3 a4 a5 a6 a7:Int}{c d:Bool}{u t:List UInt8}(h1:a1=b1)(h2:a2=b2)(h3:a3=b3)(h4:a4=b4)(h5:a5=b5)(h6:a6=b6)(h7:a7=b7)(h8:u=t)(h9:c=d):[U.int .i64 a1,.int .i64 a2,.int .i64 a3,.int .i64 a4,.int .i64 a5,.int .i64 a6,.int .i64 a7,.str u,.bool c]=[U.int .i64 b1,.int .i64 b2,.int .i64 b3,.int .i64 b4,.int .i64 b5,.int .i64 b6,.int .i64 b7,.str t,.bool d]:=by rw[h1,h2,h3,h4,h5,h6,h7,h8,h9]
theorem C8b{z:Bool}(h:(!z)=false):z=true:=by cases z<;>first|rfl|cases h
noncomputable def C59:List (FuncId×FnC):=(143,I2 Tryz.prog [.s 9] B0i [.s 11,.s 3])::(144,I2 Tryz.prog [.s 11,.s 3,.s 3] A1w [.s 3])::(13,I2 Tryz.prog [.a [3,3,3,3,3,3,3,9]] U2 [.s 3])::(51,I2 Tryz.prog [.a [8,8,8,8,8,8,8,8,8,8,8,3,8],.a [3,3,3,3,3,3,3,9]] R5 [.s 9])::(54,I2 Tryz.prog [.s 9,.s 9] x4 [.s 8])::(142,I2 Tryz.prog [.s 9,.s 9] B1E [.s 9,.s 8])::L0
theorem C1Q{G:Nat→Option Obj}(hst:B7 Tryz.prog G gl H0 n0):F6 Tryz.prog G gl C59:=(.cons (C8O hst) (.cons (B5p hst) (.cons (C4q hst) (.cons (C5L hst) (.cons (B6b hst) (.cons (C9R hst) .nil))))))
def B0y:List U→Option (Nat×List U)
 | [.str s]=>if 3≤(s.length:Int)∧(Lib.hasPrefix s [27,91,60]=false∨4≤(s.length:Int))∧(Lib.hasPrefix s [27,91,77]=false∨6≤(s.length:Int))∧(s.length:Int)≤100000 then some (0,[.int .i64 (ifI (mdB s) 2),.int .i64 (0),.int .i64 (ifI (mdB s) (mdN s / 4%8)),.int .i64 (ifI (mdB s) (mdV s)),.int .i64 (ifI (mdB s) (mdN s%4)),.int .i64 (ifI (mdB s) (mdR s)),.int .i64 (ifI (mdB s) (mdC s)),.str ([]),.bool (mdB s)])else none
 | _=>none
theorem C2k(s:(List UInt8))(hc:3≤(s.length:Int)∧(Lib.hasPrefix s [27,91,60]=false∨4≤(s.length:Int))∧(Lib.hasPrefix s [27,91,77]=false∨6≤(s.length:Int))∧(s.length:Int)≤100000):B0y [.str s]=some (0,[.int .i64 (ifI (mdB s) 2),.int .i64 (0),.int .i64 (ifI (mdB s) (mdN s / 4%8)),.int .i64 (ifI (mdB s) (mdV s)),.int .i64 (ifI (mdB s) (mdN s%4)),.int .i64 (ifI (mdB s) (mdR s)),.int .i64 (ifI (mdB s) (mdC s)),.str ([]),.bool (mdB s)]):=if_pos hc
def C4n:Tr:=.fn x4 [h 0 9,.string ⟨⟨[27,91,77]⟩⟩] 1<|aX [h 1 8]<|aD [h 0 9]<|aS [h3 3,jI 1]<|.lt 4 (.idx) [h 0 9,h3 4]<|.br 2 (.fn B1E [h 0 9,.string ⟨⟨[27,91,60]⟩⟩] 2<|aX [h 7 8]<|.br 8 (.ret [jI 0,jI 0,jI 0,jI 0,jI 0,jI 0,jI 0,.string ⟨⟨[]⟩⟩,.bool false]) (aD [h 6 9]<|aS [h3 9,jI 1]<|.lt 9 (.sub) [h 6 9,jI 0,h3 10]<|.fn B0i [h 11 9] 2<|aN [h3 13,jI 0]<|.br 14 (.ret [jI 0,jI 0,jI 0,jI 0,jI 0,jI 0,jI 0,.string ⟨⟨[]⟩⟩,.bool false]) (.fn A1w [h 12 11,jI 0,jI 0] 1<|.fn A1w [h 12 11,jI 1,jI 0] 1<|aS [h3 16,jI 1]<|.fn A1w [h 12 11,jI 2,jI 0] 1<|aS [h3 18,jI 1]<|.lt 3 (.bin .and) [h3 15,jI 3]<|.lt 3 (.bin .shr) [h3 15,.int .u64 (2)]<|.lt 3 (.bin .and) [h3 21,jI 7]<|.lt 3 (.bin .and) [h3 15,jI 64]<|aN [h3 23,jI 0]<|.br 24 (.fn U2 [jI 2,jI 0,h3 22,jI 3,h3 20,h3 19,h3 17,.string ⟨⟨[]⟩⟩] 1<|aN [h3 25,jI 0]<|.br 26 (.ret [jI 0,jI 0,jI 0,jI 0,jI 0,jI 0,jI 0,.string ⟨⟨[]⟩⟩,.bool false]) (.fn R5 [.bool false,.bool false,.bool false,.bool false,.bool false,.bool false,.bool false,.bool false,.bool false,.bool false,.bool false,jI 1003,h 2 8,jI 2,jI 0,h3 22,jI 3,h3 20,h3 19,h3 17,.string ⟨⟨[]⟩⟩] 1<|aN [h 27 9,h 0 9]<|.br 28 (.ret [jI 0,jI 0,jI 0,jI 0,jI 0,jI 0,jI 0,.string ⟨⟨[]⟩⟩,.bool false]) (.ret [jI 2,jI 0,h3 22,jI 3,h3 20,h3 19,h3 17,.string ⟨⟨[]⟩⟩,.bool true]))) (.lt 3 (.bin .and) [h3 15,jI 32]<|aN [h3 25,jI 0]<|.br 26 (.fn U2 [jI 2,jI 0,h3 22,jI 2,h3 20,h3 19,h3 17,.string ⟨⟨[]⟩⟩] 1<|aN [h3 27,jI 0]<|.br 28 (.ret [jI 0,jI 0,jI 0,jI 0,jI 0,jI 0,jI 0,.string ⟨⟨[]⟩⟩,.bool false]) (.fn R5 [.bool false,.bool false,.bool false,.bool false,.bool false,.bool false,.bool false,.bool false,.bool false,.bool false,.bool false,jI 1003,h 2 8,jI 2,jI 0,h3 22,jI 2,h3 20,h3 19,h3 17,.string ⟨⟨[]⟩⟩] 1<|aN [h 29 9,h 0 9]<|.br 30 (.ret [jI 0,jI 0,jI 0,jI 0,jI 0,jI 0,jI 0,.string ⟨⟨[]⟩⟩,.bool false]) (.ret [jI 2,jI 0,h3 22,jI 2,h3 20,h3 19,h3 17,.string ⟨⟨[]⟩⟩,.bool true]))) (aE [h 5 4,.int .u8 (109)]<|.br 27 (.fn U2 [jI 2,jI 0,h3 22,jI 1,h3 20,h3 19,h3 17,.string ⟨⟨[]⟩⟩] 1<|aN [h3 28,jI 0]<|.br 29 (.ret [jI 0,jI 0,jI 0,jI 0,jI 0,jI 0,jI 0,.string ⟨⟨[]⟩⟩,.bool false]) (.fn R5 [.bool false,.bool false,.bool false,.bool false,.bool false,.bool false,.bool false,.bool false,.bool false,.bool false,.bool false,jI 1003,h 2 8,jI 2,jI 0,h3 22,jI 1,h3 20,h3 19,h3 17,.string ⟨⟨[]⟩⟩] 1<|aN [h 30 9,h 0 9]<|.br 31 (.ret [jI 0,jI 0,jI 0,jI 0,jI 0,jI 0,jI 0,.string ⟨⟨[]⟩⟩,.bool false]) (.ret [jI 2,jI 0,h3 22,jI 1,h3 20,h3 19,h3 17,.string ⟨⟨[]⟩⟩,.bool true]))) (aX [h 2 8]<|.br 28 (aE [h3 20,jI 3]<|.br 29 (.fn U2 [jI 2,jI 0,h3 22,jI 1,h3 20,h3 19,h3 17,.string ⟨⟨[]⟩⟩] 1<|aN [h3 30,jI 0]<|.br 31 (.ret [jI 0,jI 0,jI 0,jI 0,jI 0,jI 0,jI 0,.string ⟨⟨[]⟩⟩,.bool false]) (.fn R5 [.bool false,.bool false,.bool false,.bool false,.bool false,.bool false,.bool false,.bool false,.bool false,.bool false,.bool false,jI 1003,h 2 8,jI 2,jI 0,h3 22,jI 1,h3 20,h3 19,h3 17,.string ⟨⟨[]⟩⟩] 1<|aN [h 32 9,h 0 9]<|.br 33 (.ret [jI 0,jI 0,jI 0,jI 0,jI 0,jI 0,jI 0,.string ⟨⟨[]⟩⟩,.bool false]) (.ret [jI 2,jI 0,h3 22,jI 1,h3 20,h3 19,h3 17,.string ⟨⟨[]⟩⟩,.bool true]))) (.fn U2 [jI 2,jI 0,h3 22,jI 0,h3 20,h3 19,h3 17,.string ⟨⟨[]⟩⟩] 1<|aN [h3 30,jI 0]<|.br 31 (.ret [jI 0,jI 0,jI 0,jI 0,jI 0,jI 0,jI 0,.string ⟨⟨[]⟩⟩,.bool false]) (.fn R5 [.bool false,.bool false,.bool false,.bool false,.bool false,.bool false,.bool false,.bool false,.bool false,.bool false,.bool false,jI 1003,h 2 8,jI 2,jI 0,h3 22,jI 0,h3 20,h3 19,h3 17,.string ⟨⟨[]⟩⟩] 1<|aN [h 32 9,h 0 9]<|.br 33 (.ret [jI 0,jI 0,jI 0,jI 0,jI 0,jI 0,jI 0,.string ⟨⟨[]⟩⟩,.bool false]) (.ret [jI 2,jI 0,h3 22,jI 0,h3 20,h3 19,h3 17,.string ⟨⟨[]⟩⟩,.bool true])))) (.fn U2 [jI 2,jI 0,h3 22,jI 0,h3 20,h3 19,h3 17,.string ⟨⟨[]⟩⟩] 1<|aN [h3 29,jI 0]<|.br 30 (.ret [jI 0,jI 0,jI 0,jI 0,jI 0,jI 0,jI 0,.string ⟨⟨[]⟩⟩,.bool false]) (.fn R5 [.bool false,.bool false,.bool false,.bool false,.bool false,.bool false,.bool false,.bool false,.bool false,.bool false,.bool false,jI 1003,h 2 8,jI 2,jI 0,h3 22,jI 0,h3 20,h3 19,h3 17,.string ⟨⟨[]⟩⟩] 1<|aN [h 31 9,h 0 9]<|.br 32 (.ret [jI 0,jI 0,jI 0,jI 0,jI 0,jI 0,jI 0,.string ⟨⟨[]⟩⟩,.bool false]) (.ret [jI 2,jI 0,h3 22,jI 0,h3 20,h3 19,h3 17,.string ⟨⟨[]⟩⟩,.bool true]))))))))) (.lt 4 (.idx) [h 0 9,jI 3]<|.lt 3 (.conv .i64) [h 6 4]<|aS [h3 7,jI 32]<|.lt 4 (.idx) [h 0 9,jI 4]<|.lt 3 (.conv .i64) [h 9 4]<|aS [h3 10,jI 33]<|.lt 4 (.idx) [h 0 9,jI 5]<|.lt 3 (.conv .i64) [h 12 4]<|aS [h3 13,jI 33]<|.lt 3 (.bin .and) [h3 8,jI 3]<|.lt 3 (.bin .shr) [h3 8,.int .u64 (2)]<|.lt 3 (.bin .and) [h3 16,jI 7]<|.lt 3 (.bin .and) [h3 8,jI 64]<|aN [h3 18,jI 0]<|.br 19 (.fn U2 [jI 2,jI 0,h3 17,jI 3,h3 15,h3 14,h3 11,.string ⟨⟨[]⟩⟩] 1<|aN [h3 20,jI 0]<|.br 21 (.ret [jI 0,jI 0,jI 0,jI 0,jI 0,jI 0,jI 0,.string ⟨⟨[]⟩⟩,.bool false]) (.fn R5 [.bool false,.bool false,.bool false,.bool false,.bool false,.bool false,.bool false,.bool false,.bool false,.bool false,.bool false,jI 1003,h 2 8,jI 2,jI 0,h3 17,jI 3,h3 15,h3 14,h3 11,.string ⟨⟨[]⟩⟩] 1<|aN [h 22 9,h 0 9]<|.br 23 (.ret [jI 0,jI 0,jI 0,jI 0,jI 0,jI 0,jI 0,.string ⟨⟨[]⟩⟩,.bool false]) (.ret [jI 2,jI 0,h3 17,jI 3,h3 15,h3 14,h3 11,.string ⟨⟨[]⟩⟩,.bool true]))) (.lt 3 (.bin .and) [h3 8,jI 32]<|aN [h3 20,jI 0]<|.br 21 (.fn U2 [jI 2,jI 0,h3 17,jI 2,h3 15,h3 14,h3 11,.string ⟨⟨[]⟩⟩] 1<|aN [h3 22,jI 0]<|.br 23 (.ret [jI 0,jI 0,jI 0,jI 0,jI 0,jI 0,jI 0,.string ⟨⟨[]⟩⟩,.bool false]) (.fn R5 [.bool false,.bool false,.bool false,.bool false,.bool false,.bool false,.bool false,.bool false,.bool false,.bool false,.bool false,jI 1003,h 2 8,jI 2,jI 0,h3 17,jI 2,h3 15,h3 14,h3 11,.string ⟨⟨[]⟩⟩] 1<|aN [h 24 9,h 0 9]<|.br 25 (.ret [jI 0,jI 0,jI 0,jI 0,jI 0,jI 0,jI 0,.string ⟨⟨[]⟩⟩,.bool false]) (.ret [jI 2,jI 0,h3 17,jI 2,h3 15,h3 14,h3 11,.string ⟨⟨[]⟩⟩,.bool true]))) (aX [h 2 8]<|.br 22 (aE [h3 15,jI 3]<|.br 23 (.fn U2 [jI 2,jI 0,h3 17,jI 1,h3 15,h3 14,h3 11,.string ⟨⟨[]⟩⟩] 1<|aN [h3 24,jI 0]<|.br 25 (.ret [jI 0,jI 0,jI 0,jI 0,jI 0,jI 0,jI 0,.string ⟨⟨[]⟩⟩,.bool false]) (.fn R5 [.bool false,.bool false,.bool false,.bool false,.bool false,.bool false,.bool false,.bool false,.bool false,.bool false,.bool false,jI 1003,h 2 8,jI 2,jI 0,h3 17,jI 1,h3 15,h3 14,h3 11,.string ⟨⟨[]⟩⟩] 1<|aN [h 26 9,h 0 9]<|.br 27 (.ret [jI 0,jI 0,jI 0,jI 0,jI 0,jI 0,jI 0,.string ⟨⟨[]⟩⟩,.bool false]) (.ret [jI 2,jI 0,h3 17,jI 1,h3 15,h3 14,h3 11,.string ⟨⟨[]⟩⟩,.bool true]))) (.fn U2 [jI 2,jI 0,h3 17,jI 0,h3 15,h3 14,h3 11,.string ⟨⟨[]⟩⟩] 1<|aN [h3 24,jI 0]<|.br 25 (.ret [jI 0,jI 0,jI 0,jI 0,jI 0,jI 0,jI 0,.string ⟨⟨[]⟩⟩,.bool false]) (.fn R5 [.bool false,.bool false,.bool false,.bool false,.bool false,.bool false,.bool false,.bool false,.bool false,.bool false,.bool false,jI 1003,h 2 8,jI 2,jI 0,h3 17,jI 0,h3 15,h3 14,h3 11,.string ⟨⟨[]⟩⟩] 1<|aN [h 26 9,h 0 9]<|.br 27 (.ret [jI 0,jI 0,jI 0,jI 0,jI 0,jI 0,jI 0,.string ⟨⟨[]⟩⟩,.bool false]) (.ret [jI 2,jI 0,h3 17,jI 0,h3 15,h3 14,h3 11,.string ⟨⟨[]⟩⟩,.bool true])))) (.fn U2 [jI 2,jI 0,h3 17,jI 0,h3 15,h3 14,h3 11,.string ⟨⟨[]⟩⟩] 1<|aN [h3 23,jI 0]<|.br 24 (.ret [jI 0,jI 0,jI 0,jI 0,jI 0,jI 0,jI 0,.string ⟨⟨[]⟩⟩,.bool false]) (.fn R5 [.bool false,.bool false,.bool false,.bool false,.bool false,.bool false,.bool false,.bool false,.bool false,.bool false,.bool false,jI 1003,h 2 8,jI 2,jI 0,h3 17,jI 0,h3 15,h3 14,h3 11,.string ⟨⟨[]⟩⟩] 1<|aN [h 25 9,h 0 9]<|.br 26 (.ret [jI 0,jI 0,jI 0,jI 0,jI 0,jI 0,jI 0,.string ⟨⟨[]⟩⟩,.bool false]) (.ret [jI 2,jI 0,h3 17,jI 0,h3 15,h3 14,h3 11,.string ⟨⟨[]⟩⟩,.bool true]))))))
theorem C8t{G:Nat→Option Obj}(hst:B7 Tryz.prog G gl H0 n0):K2 Tryz.prog G 128 [.s 9] B0y [.a [3,3,3,3,3,3,3,9],.s 8]:=by
 refine E4 (C:=cx C59 []) (d:=60) C4n (cxg (C1Q hst) .nil) hst ⟨Tryz.f128,_,Tryz.func128,rfl⟩ (by kernel_rfl) (by kernel_rfl) ?_;intro us outs hs;unfold B0y at hs;split at hs
 ·skip;rename_i s;split at hs
  ·rename_i hc;cases hs;have zv:=fun i=>C7r (dgT s) i
   have zv0:=zv 0;have zv1:=zv 1;have zv2:=zv 2;unfold dgT at zv0 zv1 zv2;have zb3:(((s.getD (3:Int).toNat 0).toNat:Nat):Int)<256:=by have:=(s.getD (3:Int).toNat 0).toNat_lt;omega
   have zb4:(((s.getD (4:Int).toNat 0).toNat:Nat):Int)<256:=by have:=(s.getD (4:Int).toNat 0).toNat_lt;omega
   have zb5:(((s.getD (5:Int).toNat 0).toNat:Nat):Int)<256:=by have:=(s.getD (5:Int).toNat 0).toNat_lt;omega
   unfold C4n;refine w0 (.cons 0 _ (.nil)) ?_;refine w31 x4 (e:=A8I s [27,91,77]) (k':=?_);first|refine d7 ?_|refine A3e ?_
   refine B7F ?_;first|refine j7 ?_|refine R0 ?_
   refine w1 (.idx) (e:=A9O _ _ _ (by omega) (by omega)) (k':=?_);first|refine w4 (fun g0=>?_) (fun g0=>?_)|refine w4B (fun g0=>?_) (fun g0=>?_)
   ·refine w32 B1E (e:=C3H s [27,91,60]) (k':=?_);first|refine d7 ?_|refine A3e ?_
    first|refine w4 (fun g1=>?_) (fun g1=>?_)|refine w4B (fun g1=>?_) (fun g1=>?_)
    ·refine w7 [.int .i64 _,.int .i64 _,.int .i64 _,.int .i64 _,.int .i64 _,.int .i64 _,.int .i64 _,.str _,.bool _] ?_;have hG:mdG s=true:=(by first|exact g0|(simpa using g0));have hB:mdB s=false:=C4e (by unfold mdP;rw[if_pos hG,show Lib.hasPrefix s [27,91,60]=false from B5E g1];rfl);rw[hB];exact l9 rfl rfl rfl rfl rfl rfl rfl rfl rfl
    have z4:=hc.2.1.resolve_left (by have g:=A2H (by first|exact g1|(simpa using g1));rw[g];decide);have zt:=C7e (A2H (by first|exact g1|(simpa using g1))) z4;refine B7F ?_;first|refine j7 ?_|refine R0 ?_
    refine w1 (.sub) (e:=B6g _ _ _ _ _ (by omega) (by omega) (by omega)) (k':=?_);refine w32 B0i (e:=C2L _) (k':=?_);refine A0I ?_;refine w4 (fun g2=>?_) fun g2=>?_
    ·refine w7 [.int .i64 _,.int .i64 _,.int .i64 _,.int .i64 _,.int .i64 _,.int .i64 _,.int .i64 _,.str _,.bool _] ?_;have hG:mdG s=true:=(by first|exact g0|(simpa using g0));have hB:mdB s=false:=C4e (by unfold mdP;rw[if_pos hG,show decide ((K8 (dgT s)).2=0)=false from decide_eq_false g2,S5]);rw[hB];exact l9 rfl rfl rfl rfl rfl rfl rfl rfl rfl
    refine w31 A1w (e:=B1d _ _ _ (by decide)) (k':=?_);refine w31 A1w (e:=B1d _ _ _ (by decide)) (k':=?_);first|refine j7 ?_|refine R0 ?_
    refine w31 A1w (e:=B1d _ _ _ (by decide)) (k':=?_);first|refine j7 ?_|refine R0 ?_
    refine w1 (.bin .and) (e:=x8 2 4 (by decide) (by decide) (by decide)) (k':=?_);refine w1 (.bin .shr) (e:=A17 4 (by decide) (by decide)) (k':=?_);refine w1 (.bin .and) (e:=x8 3 8 (by decide) (by decide) (by decide)) (k':=?_);refine w1 (.bin .and) (e:=B4C _) (k':=?_);refine A0I ?_;refine w4 (fun g3=>?_) fun g3=>?_
    ·refine w31 U2 (e:=o8 _ _ _ _ _ _ _ _ ⟨by omega,by omega,by show(0:Int)≤_;omega⟩) (k':=?_);refine A0I ?_;refine w4 (fun g4=>?_) fun g4=>?_
     ·refine w7 [.int .i64 _,.int .i64 _,.int .i64 _,.int .i64 _,.int .i64 _,.int .i64 _,.int .i64 _,.str _,.bool _] ?_;have hG:mdG s=true:=(by first|exact g0|(simpa using g0));obtain⟨e1,e4,e3⟩:=A7u hG;have hp:mdP s=true:=by
       unfold mdP;rw[if_pos hG,show Lib.hasPrefix s [27,91,60]=true from A2H (by first|exact g1|(simpa using g1)),show decide ((K8 (dgT s)).2=0)=true from decide_eq_true (C6.1 g2)];rfl
      have e2:=w_3 e1 g3;have hB:=A7e e1 e2 e3 e4 (A7f g4);rw[hB];exact l9 rfl rfl rfl rfl rfl rfl rfl rfl rfl
     refine w31 R5 (e:=p0 _ _ _ _ _ _ _ _ _ _ _ _ _ _ _ _ _ _ _ _ _ (A1g (w9 g4) rfl)) (k':=?_);refine A6f ?_;refine w4 (fun g5=>?_) fun g5=>?_
     ·refine w7 [.int .i64 _,.int .i64 _,.int .i64 _,.int .i64 _,.int .i64 _,.int .i64 _,.int .i64 _,.str _,.bool _] ?_;have hG:mdG s=true:=(by first|exact g0|(simpa using g0));obtain⟨e1,e4,e3⟩:=A7u hG;have hp:mdP s=true:=by
       unfold mdP;rw[if_pos hG,show Lib.hasPrefix s [27,91,60]=true from A2H (by first|exact g1|(simpa using g1)),show decide ((K8 (dgT s)).2=0)=true from decide_eq_true (C6.1 g2)];rfl
      have e2:=w_3 e1 g3;have hB:=A7d hG e1 e2 e3 e4 (g:=true) (by first|exact g5|(rw[← hG];exact g5)|(simpa [mdG]using g5));rw[hB];exact l9 rfl rfl rfl rfl rfl rfl rfl rfl rfl
     refine w7 [.int .i64 _,.int .i64 _,.int .i64 _,.int .i64 _,.int .i64 _,.int .i64 _,.int .i64 _,.str _,.bool _] ?_;have hG:mdG s=true:=(by first|exact g0|(simpa using g0));obtain⟨e1,e4,e3⟩:=A7u hG;have hp:mdP s=true:=by
      unfold mdP;rw[if_pos hG,show Lib.hasPrefix s [27,91,60]=true from A2H (by first|exact g1|(simpa using g1)),show decide ((K8 (dgT s)).2=0)=true from decide_eq_true (C6.1 g2)];rfl
     have e2:=w_3 e1 g3;have hB:=B3e hG e1 e2 e3 e4 hp (w9 g4) (by first|exact g5|(rw[← hG];exact g5));rw[hB,e1,e2,e3,e4];exact l9 rfl rfl rfl rfl rfl rfl rfl rfl rfl
    refine w1 (.bin .and) (e:=B4D _) (k':=?_);refine A0I ?_;refine w4 (fun g4=>?_) fun g4=>?_
    ·refine w31 U2 (e:=o8 _ _ _ _ _ _ _ _ ⟨by omega,by omega,by show(0:Int)≤_;omega⟩) (k':=?_);refine A0I ?_;refine w4 (fun g5=>?_) fun g5=>?_
     ·refine w7 [.int .i64 _,.int .i64 _,.int .i64 _,.int .i64 _,.int .i64 _,.int .i64 _,.int .i64 _,.str _,.bool _] ?_;have hG:mdG s=true:=(by first|exact g0|(simpa using g0));obtain⟨e1,e4,e3⟩:=A7u hG;have hp:mdP s=true:=by
       unfold mdP;rw[if_pos hG,show Lib.hasPrefix s [27,91,60]=true from A2H (by first|exact g1|(simpa using g1)),show decide ((K8 (dgT s)).2=0)=true from decide_eq_true (C6.1 g2)];rfl
      have e2:=w_2 e1 g3 g4;have hB:=A7e e1 e2 e3 e4 (A7f g5);rw[hB];exact l9 rfl rfl rfl rfl rfl rfl rfl rfl rfl
     refine w31 R5 (e:=p0 _ _ _ _ _ _ _ _ _ _ _ _ _ _ _ _ _ _ _ _ _ (A1g (w9 g5) rfl)) (k':=?_);refine A6f ?_;refine w4 (fun g6=>?_) fun g6=>?_
     ·refine w7 [.int .i64 _,.int .i64 _,.int .i64 _,.int .i64 _,.int .i64 _,.int .i64 _,.int .i64 _,.str _,.bool _] ?_;have hG:mdG s=true:=(by first|exact g0|(simpa using g0));obtain⟨e1,e4,e3⟩:=A7u hG;have hp:mdP s=true:=by
       unfold mdP;rw[if_pos hG,show Lib.hasPrefix s [27,91,60]=true from A2H (by first|exact g1|(simpa using g1)),show decide ((K8 (dgT s)).2=0)=true from decide_eq_true (C6.1 g2)];rfl
      have e2:=w_2 e1 g3 g4;have hB:=A7d hG e1 e2 e3 e4 (g:=true) (by first|exact g6|(rw[← hG];exact g6)|(simpa [mdG]using g6));rw[hB];exact l9 rfl rfl rfl rfl rfl rfl rfl rfl rfl
     refine w7 [.int .i64 _,.int .i64 _,.int .i64 _,.int .i64 _,.int .i64 _,.int .i64 _,.int .i64 _,.str _,.bool _] ?_;have hG:mdG s=true:=(by first|exact g0|(simpa using g0));obtain⟨e1,e4,e3⟩:=A7u hG;have hp:mdP s=true:=by
      unfold mdP;rw[if_pos hG,show Lib.hasPrefix s [27,91,60]=true from A2H (by first|exact g1|(simpa using g1)),show decide ((K8 (dgT s)).2=0)=true from decide_eq_true (C6.1 g2)];rfl
     have e2:=w_2 e1 g3 g4;have hB:=B3e hG e1 e2 e3 e4 hp (w9 g5) (by first|exact g6|(rw[← hG];exact g6));rw[hB,e1,e2,e3,e4];exact l9 rfl rfl rfl rfl rfl rfl rfl rfl rfl
    refine O1 ?_;refine w4 (fun g5=>?_) fun g5=>?_
    ·refine w31 U2 (e:=o8 _ _ _ _ _ _ _ _ ⟨by omega,by omega,by show(0:Int)≤_;omega⟩) (k':=?_);refine A0I ?_;refine w4 (fun g6=>?_) fun g6=>?_
     ·refine w7 [.int .i64 _,.int .i64 _,.int .i64 _,.int .i64 _,.int .i64 _,.int .i64 _,.int .i64 _,.str _,.bool _] ?_;have hG:mdG s=true:=(by first|exact g0|(simpa using g0));obtain⟨e1,e4,e3⟩:=A7u hG;have hp:mdP s=true:=by
       unfold mdP;rw[if_pos hG,show Lib.hasPrefix s [27,91,60]=true from A2H (by first|exact g1|(simpa using g1)),show decide ((K8 (dgT s)).2=0)=true from decide_eq_true (C6.1 g2)];rfl
      have e2:=w_1 e1 g3 g4 (.inl ⟨hG,g5⟩);have hB:=A7e e1 e2 e3 e4 (A7f g6);rw[hB];exact l9 rfl rfl rfl rfl rfl rfl rfl rfl rfl
     refine w31 R5 (e:=p0 _ _ _ _ _ _ _ _ _ _ _ _ _ _ _ _ _ _ _ _ _ (A1g (w9 g6) rfl)) (k':=?_);refine A6f ?_;refine w4 (fun g7=>?_) fun g7=>?_
     ·refine w7 [.int .i64 _,.int .i64 _,.int .i64 _,.int .i64 _,.int .i64 _,.int .i64 _,.int .i64 _,.str _,.bool _] ?_;have hG:mdG s=true:=(by first|exact g0|(simpa using g0));obtain⟨e1,e4,e3⟩:=A7u hG;have hp:mdP s=true:=by
       unfold mdP;rw[if_pos hG,show Lib.hasPrefix s [27,91,60]=true from A2H (by first|exact g1|(simpa using g1)),show decide ((K8 (dgT s)).2=0)=true from decide_eq_true (C6.1 g2)];rfl
      have e2:=w_1 e1 g3 g4 (.inl ⟨hG,g5⟩);have hB:=A7d hG e1 e2 e3 e4 (g:=true) (by first|exact g7|(rw[← hG];exact g7)|(simpa [mdG]using g7));rw[hB];exact l9 rfl rfl rfl rfl rfl rfl rfl rfl rfl
     refine w7 [.int .i64 _,.int .i64 _,.int .i64 _,.int .i64 _,.int .i64 _,.int .i64 _,.int .i64 _,.str _,.bool _] ?_;have hG:mdG s=true:=(by first|exact g0|(simpa using g0));obtain⟨e1,e4,e3⟩:=A7u hG;have hp:mdP s=true:=by
      unfold mdP;rw[if_pos hG,show Lib.hasPrefix s [27,91,60]=true from A2H (by first|exact g1|(simpa using g1)),show decide ((K8 (dgT s)).2=0)=true from decide_eq_true (C6.1 g2)];rfl
     have e2:=w_1 e1 g3 g4 (.inl ⟨hG,g5⟩);have hB:=B3e hG e1 e2 e3 e4 hp (w9 g6) (by first|exact g7|(rw[← hG];exact g7));rw[hB,e1,e2,e3,e4];exact l9 rfl rfl rfl rfl rfl rfl rfl rfl rfl
    first|refine d7 ?_|refine A3e ?_
    first|refine w4 (fun g6=>?_) (fun g6=>?_)|refine w4B (fun g6=>?_) (fun g6=>?_)
    ·refine O1 ?_;refine w4 (fun g7=>?_) fun g7=>?_
     ·refine w31 U2 (e:=o8 _ _ _ _ _ _ _ _ ⟨by omega,by omega,by show(0:Int)≤_;omega⟩) (k':=?_);refine A0I ?_;refine w4 (fun g8=>?_) fun g8=>?_
      ·refine w7 [.int .i64 _,.int .i64 _,.int .i64 _,.int .i64 _,.int .i64 _,.int .i64 _,.int .i64 _,.str _,.bool _] ?_;exfalso;simp_all
      refine w31 R5 (e:=p0 _ _ _ _ _ _ _ _ _ _ _ _ _ _ _ _ _ _ _ _ _ (A1g (w9 g8) rfl)) (k':=?_);refine A6f ?_;refine w4 (fun g9=>?_) fun g9=>?_
      ·refine w7 [.int .i64 _,.int .i64 _,.int .i64 _,.int .i64 _,.int .i64 _,.int .i64 _,.int .i64 _,.str _,.bool _] ?_;exfalso;simp_all
      refine w7 [.int .i64 _,.int .i64 _,.int .i64 _,.int .i64 _,.int .i64 _,.int .i64 _,.int .i64 _,.str _,.bool _] ?_;exfalso;simp_all
     refine w31 U2 (e:=o8 _ _ _ _ _ _ _ _ ⟨by omega,by omega,by show(0:Int)≤_;omega⟩) (k':=?_);refine A0I ?_;refine w4 (fun g8=>?_) fun g8=>?_
     ·refine w7 [.int .i64 _,.int .i64 _,.int .i64 _,.int .i64 _,.int .i64 _,.int .i64 _,.int .i64 _,.str _,.bool _] ?_;exfalso;simp_all
     refine w31 R5 (e:=p0 _ _ _ _ _ _ _ _ _ _ _ _ _ _ _ _ _ _ _ _ _ (A1g (w9 g8) rfl)) (k':=?_);refine A6f ?_;refine w4 (fun g9=>?_) fun g9=>?_
     ·refine w7 [.int .i64 _,.int .i64 _,.int .i64 _,.int .i64 _,.int .i64 _,.int .i64 _,.int .i64 _,.str _,.bool _] ?_;exfalso;simp_all
     refine w7 [.int .i64 _,.int .i64 _,.int .i64 _,.int .i64 _,.int .i64 _,.int .i64 _,.int .i64 _,.str _,.bool _] ?_;exfalso;simp_all
    refine w31 U2 (e:=o8 _ _ _ _ _ _ _ _ ⟨by omega,by omega,by show(0:Int)≤_;omega⟩) (k':=?_);refine A0I ?_;refine w4 (fun g7=>?_) fun g7=>?_
    ·refine w7 [.int .i64 _,.int .i64 _,.int .i64 _,.int .i64 _,.int .i64 _,.int .i64 _,.int .i64 _,.str _,.bool _] ?_;have hG:mdG s=true:=(by first|exact g0|(simpa using g0));obtain⟨e1,e4,e3⟩:=A7u hG;have hp:mdP s=true:=by
      unfold mdP;rw[if_pos hG,show Lib.hasPrefix s [27,91,60]=true from A2H (by first|exact g1|(simpa using g1)),show decide ((K8 (dgT s)).2=0)=true from decide_eq_true (C6.1 g2)];rfl
     have e2:=w_0 e1 g3 g4 (fun h=>h.elim (fun h=>g5 h.2) (fun h=>by rw[hG]at h;exact absurd h.1 (by decide)));have hB:=A7e e1 e2 e3 e4 (A7f g7);rw[hB];exact l9 rfl rfl rfl rfl rfl rfl rfl rfl rfl
    refine w31 R5 (e:=p0 _ _ _ _ _ _ _ _ _ _ _ _ _ _ _ _ _ _ _ _ _ (A1g (w9 g7) rfl)) (k':=?_);refine A6f ?_;refine w4 (fun g8=>?_) fun g8=>?_
    ·refine w7 [.int .i64 _,.int .i64 _,.int .i64 _,.int .i64 _,.int .i64 _,.int .i64 _,.int .i64 _,.str _,.bool _] ?_;have hG:mdG s=true:=(by first|exact g0|(simpa using g0));obtain⟨e1,e4,e3⟩:=A7u hG;have hp:mdP s=true:=by
      unfold mdP;rw[if_pos hG,show Lib.hasPrefix s [27,91,60]=true from A2H (by first|exact g1|(simpa using g1)),show decide ((K8 (dgT s)).2=0)=true from decide_eq_true (C6.1 g2)];rfl
     have e2:=w_0 e1 g3 g4 (fun h=>h.elim (fun h=>g5 h.2) (fun h=>by rw[hG]at h;exact absurd h.1 (by decide)));have hB:=A7d hG e1 e2 e3 e4 (g:=true) (by first|exact g8|(rw[← hG];exact g8)|(simpa [mdG]using g8));rw[hB];exact l9 rfl rfl rfl rfl rfl rfl rfl rfl rfl
    refine w7 [.int .i64 _,.int .i64 _,.int .i64 _,.int .i64 _,.int .i64 _,.int .i64 _,.int .i64 _,.str _,.bool _] ?_;have hG:mdG s=true:=(by first|exact g0|(simpa using g0));obtain⟨e1,e4,e3⟩:=A7u hG;have hp:mdP s=true:=by
     unfold mdP;rw[if_pos hG,show Lib.hasPrefix s [27,91,60]=true from A2H (by first|exact g1|(simpa using g1)),show decide ((K8 (dgT s)).2=0)=true from decide_eq_true (C6.1 g2)];rfl
    have e2:=w_0 e1 g3 g4 (fun h=>h.elim (fun h=>g5 h.2) (fun h=>by rw[hG]at h;exact absurd h.1 (by decide)));have hB:=B3e hG e1 e2 e3 e4 hp (w9 g7) (by first|exact g8|(rw[← hG];exact g8));rw[hB,e1,e2,e3,e4];exact l9 rfl rfl rfl rfl rfl rfl rfl rfl rfl
   have z6:=hc.2.2.1.resolve_left (by have g:=C8b g0;rw[g];decide);refine w1 (.idx) (e:=A9O _ _ _ (by omega) (by omega)) (k':=?_);first|refine u5 ?_|refine Y7 ?_
   first|refine j7 ?_|refine R0 ?_
   refine w1 (.idx) (e:=A9O _ _ _ (by omega) (by omega)) (k':=?_);first|refine u5 ?_|refine Y7 ?_
   first|refine j7 ?_|refine R0 ?_
   refine w1 (.idx) (e:=A9O _ _ _ (by omega) (by omega)) (k':=?_);first|refine u5 ?_|refine Y7 ?_
   first|refine j7 ?_|refine R0 ?_
   refine w1 (.bin .and) (e:=x8 2 4 (by decide) (by decide) (by decide)) (k':=?_);refine w1 (.bin .shr) (e:=A17 4 (by decide) (by decide)) (k':=?_);refine w1 (.bin .and) (e:=x8 3 8 (by decide) (by decide) (by decide)) (k':=?_);refine w1 (.bin .and) (e:=B4C _) (k':=?_);refine A0I ?_;refine w4 (fun g1=>?_) fun g1=>?_
   ·refine w31 U2 (e:=o8 _ _ _ _ _ _ _ _ ⟨by omega,by omega,by show(0:Int)≤_;omega⟩) (k':=?_);refine A0I ?_;refine w4 (fun g2=>?_) fun g2=>?_
    ·refine w7 [.int .i64 _,.int .i64 _,.int .i64 _,.int .i64 _,.int .i64 _,.int .i64 _,.int .i64 _,.str _,.bool _] ?_;have hG:mdG s=false:=(by first|exact g0|(simpa using g0));obtain⟨e1,e4,e3⟩:=A7v hG;have hp:mdP s=true:=by unfold mdP;rw[if_neg (by rw[hG];decide)]
     have e2:=w_3 e1 g1;have hB:=A7e e1 e2 e3 e4 (A7f g2);rw[hB];exact l9 rfl rfl rfl rfl rfl rfl rfl rfl rfl
    refine w31 R5 (e:=p0 _ _ _ _ _ _ _ _ _ _ _ _ _ _ _ _ _ _ _ _ _ (A1g (w9 g2) rfl)) (k':=?_);refine A6f ?_;refine w4 (fun g3=>?_) fun g3=>?_
    ·refine w7 [.int .i64 _,.int .i64 _,.int .i64 _,.int .i64 _,.int .i64 _,.int .i64 _,.int .i64 _,.str _,.bool _] ?_;have hG:mdG s=false:=(by first|exact g0|(simpa using g0));obtain⟨e1,e4,e3⟩:=A7v hG;have hp:mdP s=true:=by unfold mdP;rw[if_neg (by rw[hG];decide)]
     have e2:=w_3 e1 g1;have hB:=A7d hG e1 e2 e3 e4 (g:=false) (by first|exact g3|(rw[← hG];exact g3)|(simpa [mdG]using g3));rw[hB];exact l9 rfl rfl rfl rfl rfl rfl rfl rfl rfl
    refine w7 [.int .i64 _,.int .i64 _,.int .i64 _,.int .i64 _,.int .i64 _,.int .i64 _,.int .i64 _,.str _,.bool _] ?_;have hG:mdG s=false:=(by first|exact g0|(simpa using g0));obtain⟨e1,e4,e3⟩:=A7v hG;have hp:mdP s=true:=by unfold mdP;rw[if_neg (by rw[hG];decide)]
    have e2:=w_3 e1 g1;have hB:=B3e hG e1 e2 e3 e4 hp (w9 g2) (by first|exact g3|(rw[← hG];exact g3));rw[hB,e1,e2,e3,e4];exact l9 rfl rfl rfl rfl rfl rfl rfl rfl rfl
   refine w1 (.bin .and) (e:=B4D _) (k':=?_);refine A0I ?_;refine w4 (fun g2=>?_) fun g2=>?_
   ·refine w31 U2 (e:=o8 _ _ _ _ _ _ _ _ ⟨by omega,by omega,by show(0:Int)≤_;omega⟩) (k':=?_);refine A0I ?_;refine w4 (fun g3=>?_) fun g3=>?_
    ·refine w7 [.int .i64 _,.int .i64 _,.int .i64 _,.int .i64 _,.int .i64 _,.int .i64 _,.int .i64 _,.str _,.bool _] ?_;have hG:mdG s=false:=(by first|exact g0|(simpa using g0));obtain⟨e1,e4,e3⟩:=A7v hG;have hp:mdP s=true:=by unfold mdP;rw[if_neg (by rw[hG];decide)]
     have e2:=w_2 e1 g1 g2;have hB:=A7e e1 e2 e3 e4 (A7f g3);rw[hB];exact l9 rfl rfl rfl rfl rfl rfl rfl rfl rfl
    refine w31 R5 (e:=p0 _ _ _ _ _ _ _ _ _ _ _ _ _ _ _ _ _ _ _ _ _ (A1g (w9 g3) rfl)) (k':=?_);refine A6f ?_;refine w4 (fun g4=>?_) fun g4=>?_
    ·refine w7 [.int .i64 _,.int .i64 _,.int .i64 _,.int .i64 _,.int .i64 _,.int .i64 _,.int .i64 _,.str _,.bool _] ?_;have hG:mdG s=false:=(by first|exact g0|(simpa using g0));obtain⟨e1,e4,e3⟩:=A7v hG;have hp:mdP s=true:=by unfold mdP;rw[if_neg (by rw[hG];decide)]
     have e2:=w_2 e1 g1 g2;have hB:=A7d hG e1 e2 e3 e4 (g:=false) (by first|exact g4|(rw[← hG];exact g4)|(simpa [mdG]using g4));rw[hB];exact l9 rfl rfl rfl rfl rfl rfl rfl rfl rfl
    refine w7 [.int .i64 _,.int .i64 _,.int .i64 _,.int .i64 _,.int .i64 _,.int .i64 _,.int .i64 _,.str _,.bool _] ?_;have hG:mdG s=false:=(by first|exact g0|(simpa using g0));obtain⟨e1,e4,e3⟩:=A7v hG;have hp:mdP s=true:=by unfold mdP;rw[if_neg (by rw[hG];decide)]
    have e2:=w_2 e1 g1 g2;have hB:=B3e hG e1 e2 e3 e4 hp (w9 g3) (by first|exact g4|(rw[← hG];exact g4));rw[hB,e1,e2,e3,e4];exact l9 rfl rfl rfl rfl rfl rfl rfl rfl rfl
   first|refine d7 ?_|refine A3e ?_
   first|refine w4 (fun g3=>?_) (fun g3=>?_)|refine w4B (fun g3=>?_) (fun g3=>?_)
   ·refine O1 ?_;refine w4 (fun g4=>?_) fun g4=>?_
    ·refine w31 U2 (e:=o8 _ _ _ _ _ _ _ _ ⟨by omega,by omega,by show(0:Int)≤_;omega⟩) (k':=?_);refine A0I ?_;refine w4 (fun g5=>?_) fun g5=>?_
     ·refine w7 [.int .i64 _,.int .i64 _,.int .i64 _,.int .i64 _,.int .i64 _,.int .i64 _,.int .i64 _,.str _,.bool _] ?_;have hG:mdG s=false:=(by first|exact g0|(simpa using g0));obtain⟨e1,e4,e3⟩:=A7v hG;have hp:mdP s=true:=by unfold mdP;rw[if_neg (by rw[hG];decide)]
      have e2:=w_1 e1 g1 g2 (.inr ⟨hG,g4⟩);have hB:=A7e e1 e2 e3 e4 (A7f g5);rw[hB];exact l9 rfl rfl rfl rfl rfl rfl rfl rfl rfl
     refine w31 R5 (e:=p0 _ _ _ _ _ _ _ _ _ _ _ _ _ _ _ _ _ _ _ _ _ (A1g (w9 g5) rfl)) (k':=?_);refine A6f ?_;refine w4 (fun g6=>?_) fun g6=>?_
     ·refine w7 [.int .i64 _,.int .i64 _,.int .i64 _,.int .i64 _,.int .i64 _,.int .i64 _,.int .i64 _,.str _,.bool _] ?_;have hG:mdG s=false:=(by first|exact g0|(simpa using g0));obtain⟨e1,e4,e3⟩:=A7v hG;have hp:mdP s=true:=by unfold mdP;rw[if_neg (by rw[hG];decide)]
      have e2:=w_1 e1 g1 g2 (.inr ⟨hG,g4⟩);have hB:=A7d hG e1 e2 e3 e4 (g:=false) (by first|exact g6|(rw[← hG];exact g6)|(simpa [mdG]using g6));rw[hB];exact l9 rfl rfl rfl rfl rfl rfl rfl rfl rfl
     refine w7 [.int .i64 _,.int .i64 _,.int .i64 _,.int .i64 _,.int .i64 _,.int .i64 _,.int .i64 _,.str _,.bool _] ?_;have hG:mdG s=false:=(by first|exact g0|(simpa using g0));obtain⟨e1,e4,e3⟩:=A7v hG;have hp:mdP s=true:=by unfold mdP;rw[if_neg (by rw[hG];decide)]
     have e2:=w_1 e1 g1 g2 (.inr ⟨hG,g4⟩);have hB:=B3e hG e1 e2 e3 e4 hp (w9 g5) (by first|exact g6|(rw[← hG];exact g6));rw[hB,e1,e2,e3,e4];exact l9 rfl rfl rfl rfl rfl rfl rfl rfl rfl
    refine w31 U2 (e:=o8 _ _ _ _ _ _ _ _ ⟨by omega,by omega,by show(0:Int)≤_;omega⟩) (k':=?_);refine A0I ?_;refine w4 (fun g5=>?_) fun g5=>?_
    ·refine w7 [.int .i64 _,.int .i64 _,.int .i64 _,.int .i64 _,.int .i64 _,.int .i64 _,.int .i64 _,.str _,.bool _] ?_;have hG:mdG s=false:=(by first|exact g0|(simpa using g0));obtain⟨e1,e4,e3⟩:=A7v hG;have hp:mdP s=true:=by unfold mdP;rw[if_neg (by rw[hG];decide)]
     have e2:=w_0 e1 g1 g2 (fun h=>h.elim (fun h=>by rw[hG]at h;exact absurd h.1 (by decide)) (fun h=>g4 h.2));have hB:=A7e e1 e2 e3 e4 (A7f g5);rw[hB];exact l9 rfl rfl rfl rfl rfl rfl rfl rfl rfl
    refine w31 R5 (e:=p0 _ _ _ _ _ _ _ _ _ _ _ _ _ _ _ _ _ _ _ _ _ (A1g (w9 g5) rfl)) (k':=?_);refine A6f ?_;refine w4 (fun g6=>?_) fun g6=>?_
    ·refine w7 [.int .i64 _,.int .i64 _,.int .i64 _,.int .i64 _,.int .i64 _,.int .i64 _,.int .i64 _,.str _,.bool _] ?_;have hG:mdG s=false:=(by first|exact g0|(simpa using g0));obtain⟨e1,e4,e3⟩:=A7v hG;have hp:mdP s=true:=by unfold mdP;rw[if_neg (by rw[hG];decide)]
     have e2:=w_0 e1 g1 g2 (fun h=>h.elim (fun h=>by rw[hG]at h;exact absurd h.1 (by decide)) (fun h=>g4 h.2));have hB:=A7d hG e1 e2 e3 e4 (g:=false) (by first|exact g6|(rw[← hG];exact g6)|(simpa [mdG]using g6));rw[hB];exact l9 rfl rfl rfl rfl rfl rfl rfl rfl rfl
    refine w7 [.int .i64 _,.int .i64 _,.int .i64 _,.int .i64 _,.int .i64 _,.int .i64 _,.int .i64 _,.str _,.bool _] ?_;have hG:mdG s=false:=(by first|exact g0|(simpa using g0));obtain⟨e1,e4,e3⟩:=A7v hG;have hp:mdP s=true:=by unfold mdP;rw[if_neg (by rw[hG];decide)]
    have e2:=w_0 e1 g1 g2 (fun h=>h.elim (fun h=>by rw[hG]at h;exact absurd h.1 (by decide)) (fun h=>g4 h.2));have hB:=B3e hG e1 e2 e3 e4 hp (w9 g5) (by first|exact g6|(rw[← hG];exact g6));rw[hB,e1,e2,e3,e4];exact l9 rfl rfl rfl rfl rfl rfl rfl rfl rfl
   refine w31 U2 (e:=o8 _ _ _ _ _ _ _ _ ⟨by omega,by omega,by show(0:Int)≤_;omega⟩) (k':=?_);refine A0I ?_;refine w4 (fun g4=>?_) fun g4=>?_
   ·refine w7 [.int .i64 _,.int .i64 _,.int .i64 _,.int .i64 _,.int .i64 _,.int .i64 _,.int .i64 _,.str _,.bool _] ?_;exfalso;simp_all
   refine w31 R5 (e:=p0 _ _ _ _ _ _ _ _ _ _ _ _ _ _ _ _ _ _ _ _ _ (A1g (w9 g4) rfl)) (k':=?_);refine A6f ?_;refine w4 (fun g5=>?_) fun g5=>?_
   ·refine w7 [.int .i64 _,.int .i64 _,.int .i64 _,.int .i64 _,.int .i64 _,.int .i64 _,.int .i64 _,.str _,.bool _] ?_;exfalso;simp_all
   refine w7 [.int .i64 _,.int .i64 _,.int .i64 _,.int .i64 _,.int .i64 _,.int .i64 _,.int .i64 _,.str _,.bool _] ?_;exfalso;simp_all
  ·cases hs
 ·cases hs
def sfX(p u:Option (List Int)):Bool:=decide (((el u).length:Int)≤((el p).length:Int)) && decide (iB (el (Q2 p (((el p).length:Int)-(el u).length).toNat ((el p).length:Int).toNat))=iB (el u))
def sfP(p u:Option (List Int)):Option (List Int):=if sfX p u=true then Q2 p (0:Int).toNat (((el p).length:Int)-(el u).length).toNat else p
theorem C9x{p u:Option (List Int)}(h:¬((el p).length:Int)≥(el u).length):sfX p u=false:=by unfold sfX;rw[decide_eq_false (by omega),Z6]
theorem C9w{p u:Option (List Int)}(h:iB (el (Q2 p (((el p).length:Int)-(el u).length).toNat ((el p).length:Int).toNat))≠iB (el u)):sfX p u=false:=by unfold sfX;rw[decide_eq_false h,S5]
theorem C9v{p u:Option (List Int)}(h0:((el p).length:Int)≥(el u).length)(h:iB (el (Q2 p (((el p).length:Int)-(el u).length).toNat ((el p).length:Int).toNat))=iB (el u)):sfX p u=true:=by unfold sfX;rw[decide_eq_true (by omega),decide_eq_true h];rfl
theorem C6e{p u:Option (List Int)}{b:Bool}{x:Option (List Int)}(h:sfX p u=b)(hx:x=if b=true then Q2 p (0:Int).toNat (((el p).length:Int)-(el u).length).toNat else p):[A7 rB x,U.bool b]=[A7 rB (sfP p u),U.bool (sfX p u)]:=by
 unfold sfP;rw[h,hx]
theorem A4M{p:Option (List Int)}{i j:Nat}(h:∀ x ∈ el p,0≤x∧x<256):∀ x ∈ el (Q2 p i j),0≤x∧x<256:=fun x hx=>by
 rw[P5]at hx;exact h x (J8 (N4 hx))
noncomputable def C6M:List (FuncId×FnC):=L0
theorem C1e{G:Nat→Option Obj}(hst:B7 Tryz.prog G gl H0 n0):F6 Tryz.prog G gl C6M:=.nil
def A9a:List U→Option (Nat×List U)
 | [u_p,u_u]=>(J6 rB u_p).bind fun p=>(J6 rB u_u).bind fun u=>if((el p).length:Int)≤100000000∧((el u).length:Int)≤100000000∧(∀ x ∈ el p,0≤x∧x<256)∧(∀ x ∈ el u,0≤x∧x<256)then some (0,[A7 rB (sfP p u),.bool (sfX p u)])else none
 | _=>none
theorem C3G(p:(Option (List Int)))(u:(Option (List Int)))(hc:((el p).length:Int)≤100000000∧((el u).length:Int)≤100000000∧(∀ x ∈ el p,0≤x∧x<256)∧(∀ x ∈ el u,0≤x∧x<256)):A9a [A7 rB p,A7 rB u]=some (0,[A7 rB (sfP p u),.bool (sfX p u)]):=by
 simp only[A9a,G6,D5];exact if_pos hc
def C5T:Tr:=aD [h 0 11]<|aD [h 1 11]<|aH [h3 2,h3 3]<|.br 4 (aS [h3 2,h3 3]<|.dt 11 (.subs 1) [h 0 11,h3 5,h3 2]<|.lt 9 (.str) [h 6 11]<|.lt 9 (.str) [h 1 11]<|aE [h 7 9,h 8 9]<|aX [h 9 8]<|.br 10 (.ret [h 0 11,.bool false]) (aS [h3 2,h3 3]<|.dt 11 (.subs 1) [h 0 11,jI 0,h3 11]<|.ret [h 12 11,.bool true])) (.ret [h 0 11,.bool false])
theorem C9Q{G:Nat→Option Obj}(hst:B7 Tryz.prog G gl H0 n0):K2 Tryz.prog G 145 [.s 11,.s 11] A9a [.s 11,.s 8]:=by
 refine E4 (C:=cx C6M []) (d:=60) C5T (cxg (C1e hst) .nil) hst ⟨Tryz.f145,_,Tryz.func145,rfl⟩ (by kernel_rfl) (by kernel_rfl) ?_;intro us outs hs;unfold A9a at hs;split at hs
 ·skip;rename_i u_p u_u;have hq_p:=A6.1 hs;clear hs;obtain⟨p,hd_p,hs⟩:=hq_p;replace hd_p:=F0 hd_p;subst hd_p;have hq_u:=A6.1 hs;clear hs;obtain⟨u,hd_u,hs⟩:=hq_u;replace hd_u:=F0 hd_u;subst hd_u;split at hs
  ·rename_i hc;cases hs;unfold C5T;refine w0 (.cons 1 _ (.cons 0 _ (.nil))) ?_;refine R1 ?_;refine R1 ?_;refine A06 ?_;refine w5 (fun g0=>?_) fun g0=>?_
   ·refine w7 [A7 rB _,.bool _] ?_;exact C6e (C9x g0) rfl
   first|refine j7 ?_|refine R0 ?_
   refine w2 (.subs 1) (r:=rB) (e:=I7 rfl (by omega) (by omega) (by omega)) (k':=?_);refine w1 (.str) (e:=A0b rfl (by first|exact A4M hc.2.2.1|exact hc.2.2.2)) (k':=?_);refine w1 (.str) (e:=A0b rfl (by first|exact A4M hc.2.2.1|exact hc.2.2.2)) (k':=?_);refine C13 ?_;refine d7 ?_;refine w4 (fun g1=>?_) fun g1=>?_
   ·refine w7 [A7 rB _,.bool _] ?_;exact C6e (C9w (by first|exact g1|(simpa using g1))) rfl
   first|refine j7 ?_|refine R0 ?_
   refine w2 (.subs 1) (r:=rB) (e:=I7 rfl (by omega) (by omega) (by omega)) (k':=?_);refine w7 [A7 rB _,.bool _] ?_;exact C6e (C9v g0 (by first|exact g1|(simpa using g1))) rfl
  ·cases hs
 ·cases hs
def rmE(s:List UInt8):List UInt8:=s.filter (fun b=>!(b == 27))
theorem B80:∀ s:List UInt8,Lib.replaceK [27] [] (s.count 27) s=rmE s
 | []=>rfl
 | b::r=>by
   have ih:=B80 r;by_cases hb:b=27
   ·subst hb;have h0:Lib.index (27::r) [27]=((0:Nat):Int):=by rw[Lib.index_one];rfl
    rw[List.count_cons_self,Lib.replaceK_hit [27] [] _ _ 0 h0];show[]++[]++Lib.replaceK [27] [] (r.count 27) r=_;rw[ih];rfl
   ·have hb':(b == 27)=false:=by simpa using hb
    have e:rmE (b::r)=b::rmE r:=by unfold rmE;rw[List.filter_cons_of_pos (by simp[hb'])]
    have hc:(b::r).count 27=r.count 27:=by rw[List.count_cons,hb'];simp
    rw[hc,e,← ih];cases hk:r.count 27 with
    | zero=>rfl
    | succ k =>
      obtain⟨i,hi⟩:=Lib.index_of_count (s:=r) (old:=[27]) (by rw[Lib.count_one,hk];omega);have hi':Lib.index (b::r) [27]=((i+1:Nat):Int):=by
       have hp:([27]:List UInt8).isPrefixOf (b::r)=false:=by
        show((27:UInt8) == b && _)=false;have:((27:UInt8) == b)=false:=by simpa using fun h:(27:UInt8)=b=>hb h.symm
        rw[this];rfl
       have hm:¬ ((i:Int) == -1)=true:=fun h=>by have:=beq_iff_eq.1 h;omega
       rw[Lib.index,hp,hi];simp only[H7,if_false];rw[if_neg hm];omega
      rw[Lib.replaceK_hit [27] [] k _ _ hi',Lib.replaceK_hit [27] [] k r i hi];rfl
theorem C6o(s:List UInt8):Lib.replaceAll s [27] []=rmE s:=by
 unfold Lib.replaceAll Lib.replace;rw[if_neg (by decide)];have:Lib.replaceNum s [27] (-1)=s.count 27:=by unfold Lib.replaceNum;rw[if_pos (.inl (by decide)),Lib.count_one]
 rw[this,B80]
def B0c:List U→Option (Nat×List U)
 | [.str s,.str u,.str v]=>if s.length≤100000000∧u=[27]∧v=[]then some (0,[.str (rmE s)])else none
 | _=>none
theorem C2E(s:(List UInt8))(u:(List UInt8))(v:(List UInt8))(hc:s.length≤100000000∧u=[27]∧v=[]):B0c [.str s,.str u,.str v]=some (0,[.str (rmE s)]):=if_pos hc
theorem C8B{G:Nat→Option Obj}(hst:B7 Tryz.prog G gl H0 n0):K2 Tryz.prog G 29 [.s 9,.s 9,.s 9] B0c [.s 9]:=by
 intro us outs w vs R hsh hs hG hR;unfold B0c at hs;split at hs
 ·skip;rename_i s u v;split at hs
  ·rename_i hc;cases hs;have hv:=U6 (vs2:=[.string ⟨⟨s⟩⟩,.string ⟨⟨u⟩⟩,.string ⟨⟨v⟩⟩]) hsh rfl;subst hv;refine A4u (vr:=[.string ⟨⟨rmE s⟩⟩]) Tryz.func29 rfl (by kernel_rfl) rfl ?_;obtain⟨hl,rfl,rfl⟩:=hc;have hl2:ByteArray.size ⟨⟨s⟩⟩=s.length:=rfl;refine(Tryz.strings_ReplaceAll_shaped ⟨⟨s⟩⟩ ⟨⟨[27]⟩⟩ ⟨⟨[]⟩⟩ w (A7t hst hG) (by omega) (by decide) (by show _+_*0≤_;omega)).mono fun e w' ⟨h1,h2⟩=>⟨?_,h2⟩
   rw[show Lib.replaceAll (ByteArray.mk (Array.mk s)).data.toList (ByteArray.mk (Array.mk [27])).data.toList (ByteArray.mk (Array.mk [])).data.toList=rmE s from C6o s]at h1;exact h1
  ·cases hs
 ·cases hs
theorem C97{l:List Int}(h:knd l=2):R8 (l.getD 0 0)=(l.length:Int)∧okT (l.drop 1) (loB (l.getD 0 0)) (hiB (l.getD 0 0))=true:=by
 unfold knd at h;split at h
 ·omega
 ·split at h
  ·rename_i h2;split at h
   ·omega
   ·exact⟨by omega,h2⟩
  ·omega
theorem C95{a lo hi:Int}{r:List Int}(h:okT (a::r) lo hi=true):lo≤a∧a≤hi∧okT r 128 191=true:=by
 have h:(decide (lo≤a∧a≤hi) && okT r 128 191)=true:=h;obtain⟨h1,h2⟩:=K3 h
 have:=of_decide_eq_true h1;exact⟨this.1,this.2,h2⟩
theorem C0d{l:List Int}(hb:∀ x ∈ l,0≤x∧x<256)(h:knd l=2):0≤A1l l∧A1l l≤1114111:=by
 obtain⟨h1,h2⟩:=C97 h
 match l,hb,h1,h2 with
 | [],_,h1,_ =>
   have h1:R8 0=0:=h1;exact absurd h1 (by decide)
 | [a],hb,h1,_ =>
   have h1:R8 a=1:=h1
   have:=hb a (by simp);have e:A1l [a]=a:=rfl;rw[e];omega
 | [a,b],hb,h1,h2 =>
   have e:A1l [a,b]=a%32*64+b%64:=rfl;rw[e];omega
 | [a,b,c],hb,h1,h2 =>
   have e:A1l [a,b,c]=(a%16*64+b%64)*64+c%64:=rfl;rw[e];omega
 | [a,b,c,d],hb,h1,h2 =>
   have e:A1l [a,b,c,d]=((a%8*64+b%64)*64+c%64)*64+d%64:=rfl;have h1:R8 a=4:=h1;have h2:okT [b,c,d] (loB a) (hiB a)=true:=h2;obtain⟨k1,k2,_⟩:=C95 h2;have ha:240≤a∧a≤244:=by unfold R8 at h1;(repeat' split at h1)<;>omega
   have hh:(a=244∧hiB a=143)∨(a≤243∧hiB a≤191):=by unfold hiB;(repeat' split)<;>omega
   have hl:128≤loB a:=by unfold loB;(repeat' split)<;>omega
   rw[e];omega
 | a::b::c::d::x::r,hb,h1,h2 =>
   have h1:R8 a=((a::b::c::d::x::r).length:Int):=h1
   have:=B9g (l:=a::r);have:R8 a≤4:=this;simp only[B9]at h1;omega
theorem C1y{l:List Int}{b:Int}(hl:∀ x ∈ l,0≤x∧x<256)(h0:0≤b)(h1:b<256):∀ x ∈ el (utC l b),0≤x∧x≤1114111:=by
 have hlb:∀ x ∈ l++[b],0≤x∧x<256:=fun x hx=>by
  rcases B0.1 hx with h|h
  ·exact hl x h
  ·have:x=b:=by simpa using h
   omega
 have hb1:∀ x ∈ [b],0≤x∧x<256:=fun x hx=>hlb x (List.mem_append_right _ hx)
 have h0':∀ x ∈ el (A7s b),0≤x∧x≤1114111:=by
  unfold A7s;split
  ·rename_i k;intro x hx;have e:x=A1l [b]:=by simpa [el]using hx
   rw[e];exact C0d hb1 k
  ·split
   ·intro x hx;cases hx
   ·intro x hx;have e:x=65533:=by simpa [el]using hx
    omega
 unfold utC;split
 ·rename_i k;intro x hx;have e:x=A1l (l++[b]):=by simpa [el]using hx
  rw[e];exact C0d hlb k
 ·split
  ·intro x hx;cases hx
  ·split
   ·intro x hx;have e:x=65533:=by simpa [el]using hx
    omega
   ·intro x hx;have hx:x=65533∨x ∈ el (A7s b):=by simpa [el]using hx
    rcases hx with e|hx
    ·omega
    ·exact h0' x hx
theorem B5t{l:List Int}{b:Int}:((el (utC l b)).length:Int)≤2:=by
 have:=B2v b;unfold utC
 (repeat' split)<;>simp[el]<;>first|omega|(have e:(A7s b).getD []=el (A7s b):=rfl;rw[e];omega)
theorem C1x{l:List Int}{b:Int}:((el (utR l b)).length:Int)≤3:=by
 unfold utR;split
 ·simp[el]
 ·split
  ·rename_i k;have:=A32 k;simp only[I1];exact this
  ·split
   ·simp[el]
   ·unfold B7C;split
    ·simp[el]
    ·simp[el]
noncomputable def A4S:List LpE:=[(99,([true,true,true,true,true,false,true,false],Q0 Tryz.prog gl n0 26 C5H A0G)),(72,([true,true,false,true,false],Q0 Tryz.prog gl n0 7 B0T A1y)),(72,([true,true,false,true,false,false,true,false,false,true,false],Q0 Tryz.prog gl n0 7 A8j A3J))]
theorem A2B{G:Nat→Option Obj}(hst:B7 Tryz.prog G gl H0 n0):y4 Tryz.prog G gl A4S:=(.cons Tryz.func99 C5G C5F (C9I hst) (.cons Tryz.func72 B0S B0R (B26 hst) (.cons Tryz.func72 A8i A8h (B0U hst) .nil)))
def fs1(f:List UInt8)(r:Option (List Int)):Option (List Int):=if 0<((el r).length:Int)then A6S (some (bI f)) r else none
def fsP(f:List UInt8)(q:Option (List Int))(b:Int):Option (List Int):=if((el q).length:Int)=0∧b=27 then some [27]else if((el q).length:Int)=0∧b<128 then none else
 if 0<((el (utC (el q) b)).length:Int)∧0<((el (utR (el q) b)).length:Int)then utR (el q) b else cP (el (utC (el q) b)) (fs1 f (utR (el q) b))
def fsI(f:List UInt8)(q:Option (List Int))(b:Int)(l:Option (List (Int×Int×Int×Int×Int×Int×Int×List UInt8))):Option (List (Int×Int×Int×Int×Int×Int×Int×List UInt8)):=if((el q).length:Int)=0∧b=27 then l else if((el q).length:Int)=0∧b<128 then some (el l++[ipK (plC b) (plM b+(f.length:Int)*2)])else
 cI (el (utC (el q) b)) ((f.length:Int)*2) l
theorem D0C{f:List UInt8}{q:Option (List Int)}{b:Int}{l:Option (List (Int×Int×Int×Int×Int×Int×Int×List UInt8))}(h:((el q).length:Int)=0∧b=27):some [27]=fsP f q b∧l=fsI f q b l:=by unfold fsP fsI;rw[if_pos h,if_pos h];exact⟨rfl,rfl⟩
theorem D0B{f:List UInt8}{q:Option (List Int)}{b:Int}{l:Option (List (Int×Int×Int×Int×Int×Int×Int×List UInt8))}(h:¬(((el q).length:Int)=0∧b=27))(h2:((el q).length:Int)=0∧b<128):none=fsP f q b∧some (el l++[ipK (plC b) (plM b+(f.length:Int)*2)])=fsI f q b l:=by unfold fsP fsI;rw[if_neg h,if_pos h2,if_neg h,if_pos h2];exact⟨rfl,rfl⟩
theorem D0A{f:List UInt8}{q:Option (List Int)}{b:Int}{l:Option (List (Int×Int×Int×Int×Int×Int×Int×List UInt8))}(h:¬(((el q).length:Int)=0∧b<128))(hc:0<((el (utC (el q) b)).length:Int)∧0<((el (utR (el q) b)).length:Int)):utR (el q) b=fsP f q b∧cI (el (utC (el q) b)) ((f.length:Int)*2) l=fsI f q b l:=by
 unfold fsP fsI;rw[if_neg (by omega),if_neg h,if_pos hc,if_neg (by omega),if_neg h];exact⟨rfl,rfl⟩
theorem C9_{f:List UInt8}{q:Option (List Int)}{b:Int}{l:Option (List (Int×Int×Int×Int×Int×Int×Int×List UInt8))}(h:¬(((el q).length:Int)=0∧b<128))(hc:¬(0<((el (utC (el q) b)).length:Int)∧0<((el (utR (el q) b)).length:Int)))(hr:0<((el (utR (el q) b)).length:Int)):cP (el (utC (el q) b)) (A6S (some (bI f)) (utR (el q) b))=fsP f q b∧cI (el (utC (el q) b)) ((f.length:Int)*2) l=fsI f q b l:=by
 unfold fsP fsI fs1;rw[if_neg (by omega),if_neg h,if_neg hc,if_pos hr,if_neg (by omega),if_neg h];exact⟨rfl,rfl⟩
theorem C99{f:List UInt8}{q:Option (List Int)}{b:Int}{l:Option (List (Int×Int×Int×Int×Int×Int×Int×List UInt8))}(h:¬(((el q).length:Int)=0∧b<128))(hr:¬0<((el (utR (el q) b)).length:Int)):cP (el (utC (el q) b)) none=fsP f q b∧cI (el (utC (el q) b)) ((f.length:Int)*2) l=fsI f q b l:=by
 unfold fsP fsI fs1;rw[if_neg (by omega),if_neg h,if_neg (fun h=>hr h.2),if_neg hr,if_neg (by omega),if_neg h];exact⟨rfl,rfl⟩
theorem C7G{a m:Int}(h:a=0∨a=4)(h2:m=0∨m=2):evU (.bin .or) [.int .i64 a,.int .i64 m]=.int .i64 (a+m):=by
 rcases h with rfl|rfl<;>rcases h2 with rfl|rfl<;>rfl
theorem B31{a c:Option (List Int)}{b d:Option (List (Int×Int×Int×Int×Int×Int×Int×List UInt8))}{mp:Option (List Qt)}(h:a=c∧b=d):[A7 rB c,A7 rI d,A7 rQ mp]=[A7 rB a,A7 rI b,A7 rQ mp]:=by rw[h.1,h.2]
noncomputable def C6E:List (FuncId×FnC):=(50,I2 Tryz.prog [.a [8,8,8,8,8,8,8,8,8,8,8,3,8],.a [3,3,3,3,3,3,3,9]] d8 [.s 9])::(127,I2 Tryz.prog [.s 11,.s 4] A3d [.s 11,.s 11])::(126,I2 Tryz.prog [.s 4] A47 [.a [3,3,3,3,3,3,3,9]])::L0
theorem C1W{G:Nat→Option Obj}(hst:B7 Tryz.prog G gl H0 n0):F6 Tryz.prog G gl C6E:=(.cons (A3R hst) (.cons (C3f hst) (.cons (C4i hst) .nil)))
def Z3:List U→Option (Nat×List U)
 | [.str f,u_q,.int .u8 b,u_p,u_inp,u_mp]=>(J6 rB u_q).bind fun q=>(J6 rB u_p).bind fun p=>(J6 rI u_inp).bind fun inp=>(J6 rQ u_mp).bind fun mp=>if(f=[]∨f=[27])∧(((el q).length:Int)≤100∧(((el q).length:Int)=0∨knd (el q)=1)∧0≤b∧b<256∧∀ x ∈ el q,0≤x∧x<256)∧((el inp).length:Int)≤900000 then some (0,[A7 rB (fsP f q b),A7 rI (fsI f q b inp),A7 rQ mp])else none
 | _=>none
theorem A16(f:(List UInt8))(q:(Option (List Int)))(b:Int)(p:(Option (List Int)))(inp:(Option (List (Int×Int×Int×Int×Int×Int×Int×(List UInt8)))))(mp:(Option (List ((List UInt8)×Int×Int×Int×Int×Int×Int×Int×(List UInt8)))))(hc:(f=[]∨f=[27])∧(((el q).length:Int)≤100∧(((el q).length:Int)=0∨knd (el q)=1)∧0≤b∧b<256∧∀ x ∈ el q,0≤x∧x<256)∧((el inp).length:Int)≤900000):Z3 [.str f,A7 rB q,.int .u8 b,A7 rB p,A7 rI inp,A7 rQ mp]=some (0,[A7 rB (fsP f q b),A7 rI (fsI f q b inp),A7 rQ mp]):=by
 simp only[Z3,G6,D5];exact if_pos hc
def B94:Q1:=⟨[(0,.pointer (some ⟨9,0,none⟩)),(1,h 0 9),(2,dat 14 1 11),(3,h 2 4)],[(9,.cells 83 [dat 15 3 11,.map (some 7),own 16 4 18]),(7,.mp 5 19 81),(16,.sq 4 18 23 17),(14,.frz),(15,.frz),(17,.frz)],6,[⟨.ret,[(0,.pointer (some ⟨9,0,none⟩))],[(9,.cells 83 [dat 18 0 11,.map (some 7),own 19 1 18]),(7,.mp 2 19 81),(19,.sq 1 18 23 20),(18,.frz),(20,.frz)],3⟩]⟩
noncomputable def C9G:Code:=(Tryz.f99.body).getD .skip
theorem C9F:Tryz.f99.body=some C9G:=rfl
def C5A:Tr:=aD [h 0 9]<|.lt 3 (.bin .mul) [h3 6,jI 2]<|aD [h 1 11]<|aE [h3 8,jI 0]<|.br 9 (aE [h 2 4,.int .u8 (27)]<|.br 10 (.dt 11 (.mk 1) [.int .u8 (27)]<|.ret [jI 0,h 11 11,h 4 18,h 5 19]) (aE [h3 8,jI 0]<|.br 11 (aL [h 2 4,.int .u8 (128)]<|.br 12 (.fn A47 [h 2 4] 8<|.lt 3 (.bin .or) [h3 15,h3 7]<|.dt 18 (.snoc 8) [h 4 18,h3 13,h3 14,h3 21,h3 16,h3 17,h3 18,h3 19,h 20 9]<|.dt 11 (.nilw 1) []<|.ret [jI 0,h 23 11,h 22 18,h 5 19]) (.fn A3d [h 1 11,h 2 4] 2<|aD [h 13 11]<|aG [h3 15,jI 0]<|.br 16 (.dt 11 (.byt) [h 0 9]<|.dt 11 (.cat 1) [h 17 11,h 13 11]<|aD [h 14 11]<|.fn A0G [h3 7,h 13 11,h 14 11,h 14 11,h3 19,jI 0,h 18 11,h 4 18,h 5 19] 5<|aD [h 21 11]<|aG [h3 25,jI 0]<|.br 26 (aD [h 20 11]<|aG [h3 27,jI 0]<|.br 28 (.ret [jI 0,h 20 11,h 23 18,h 24 19]) (.ret [jI 0,h 22 11,h 23 18,h 24 19])) (.ret [jI 0,h 22 11,h 23 18,h 24 19])) (aD [h 14 11]<|.dt 11 (.nilw 1) []<|.fn A0G [h3 7,h 13 11,h 14 11,h 14 11,h3 17,jI 0,h 18 11,h 4 18,h 5 19] 5<|aD [h 20 11]<|aG [h3 24,jI 0]<|.br 25 (aD [h 19 11]<|aG [h3 26,jI 0]<|.br 27 (.ret [jI 0,h 19 11,h 22 18,h 23 19]) (.ret [jI 0,h 21 11,h 22 18,h 23 19])) (.ret [jI 0,h 21 11,h 22 18,h 23 19])))) (.fn A3d [h 1 11,h 2 4] 2<|aD [h 12 11]<|aG [h3 14,jI 0]<|.br 15 (.dt 11 (.byt) [h 0 9]<|.dt 11 (.cat 1) [h 16 11,h 12 11]<|aD [h 13 11]<|.fn A0G [h3 7,h 12 11,h 13 11,h 13 11,h3 18,jI 0,h 17 11,h 4 18,h 5 19] 5<|aD [h 20 11]<|aG [h3 24,jI 0]<|.br 25 (aD [h 19 11]<|aG [h3 26,jI 0]<|.br 27 (.ret [jI 0,h 19 11,h 22 18,h 23 19]) (.ret [jI 0,h 21 11,h 22 18,h 23 19])) (.ret [jI 0,h 21 11,h 22 18,h 23 19])) (aD [h 13 11]<|.dt 11 (.nilw 1) []<|.fn A0G [h3 7,h 12 11,h 13 11,h 13 11,h3 16,jI 0,h 17 11,h 4 18,h 5 19] 5<|aD [h 19 11]<|aG [h3 23,jI 0]<|.br 24 (aD [h 18 11]<|aG [h3 25,jI 0]<|.br 26 (.ret [jI 0,h 18 11,h 21 18,h 22 19]) (.ret [jI 0,h 20 11,h 21 18,h 22 19])) (.ret [jI 0,h 20 11,h 21 18,h 22 19]))))) (aE [h3 8,jI 0]<|.br 10 (aL [h 2 4,.int .u8 (128)]<|.br 11 (.fn A47 [h 2 4] 8<|.lt 3 (.bin .or) [h3 14,h3 7]<|.dt 18 (.snoc 8) [h 4 18,h3 12,h3 13,h3 20,h3 15,h3 16,h3 17,h3 18,h 19 9]<|.dt 11 (.nilw 1) []<|.ret [jI 0,h 22 11,h 21 18,h 5 19]) (.fn A3d [h 1 11,h 2 4] 2<|aD [h 12 11]<|aG [h3 14,jI 0]<|.br 15 (.dt 11 (.byt) [h 0 9]<|.dt 11 (.cat 1) [h 16 11,h 12 11]<|aD [h 13 11]<|.fn A0G [h3 7,h 12 11,h 13 11,h 13 11,h3 18,jI 0,h 17 11,h 4 18,h 5 19] 5<|aD [h 20 11]<|aG [h3 24,jI 0]<|.br 25 (aD [h 19 11]<|aG [h3 26,jI 0]<|.br 27 (.ret [jI 0,h 19 11,h 22 18,h 23 19]) (.ret [jI 0,h 21 11,h 22 18,h 23 19])) (.ret [jI 0,h 21 11,h 22 18,h 23 19])) (aD [h 13 11]<|.dt 11 (.nilw 1) []<|.fn A0G [h3 7,h 12 11,h 13 11,h 13 11,h3 16,jI 0,h 17 11,h 4 18,h 5 19] 5<|aD [h 19 11]<|aG [h3 23,jI 0]<|.br 24 (aD [h 18 11]<|aG [h3 25,jI 0]<|.br 26 (.ret [jI 0,h 18 11,h 21 18,h 22 19]) (.ret [jI 0,h 20 11,h 21 18,h 22 19])) (.ret [jI 0,h 20 11,h 21 18,h 22 19])))) (.fn A3d [h 1 11,h 2 4] 2<|aD [h 11 11]<|aG [h3 13,jI 0]<|.br 14 (.dt 11 (.byt) [h 0 9]<|.dt 11 (.cat 1) [h 15 11,h 11 11]<|aD [h 12 11]<|.fn A0G [h3 7,h 11 11,h 12 11,h 12 11,h3 17,jI 0,h 16 11,h 4 18,h 5 19] 5<|aD [h 19 11]<|aG [h3 23,jI 0]<|.br 24 (aD [h 18 11]<|aG [h3 25,jI 0]<|.br 26 (.ret [jI 0,h 18 11,h 21 18,h 22 19]) (.ret [jI 0,h 20 11,h 21 18,h 22 19])) (.ret [jI 0,h 20 11,h 21 18,h 22 19])) (aD [h 12 11]<|.dt 11 (.nilw 1) []<|.fn A0G [h3 7,h 11 11,h 12 11,h 12 11,h3 15,jI 0,h 16 11,h 4 18,h 5 19] 5<|aD [h 18 11]<|aG [h3 22,jI 0]<|.br 23 (aD [h 17 11]<|aG [h3 24,jI 0]<|.br 25 (.ret [jI 0,h 17 11,h 20 18,h 21 19]) (.ret [jI 0,h 19 11,h 20 18,h 21 19])) (.ret [jI 0,h 19 11,h 20 18,h 21 19]))))
theorem C5B{G:Nat→Option Obj}(hst:B7 Tryz.prog G gl H0 n0):B1X Tryz.prog G gl 99 (A3t Tryz.prog Tryz.f99 gl n0 21 B94 Z3):=by
 refine B12 (C:=cx C6E A4S) (dep:=60) (f:=99) (n0:=n0) (nB:=21) (H0:=H0) C5A (cxg (C1W hst) (A2B hst)) hst Tryz.func99 C9F (by kernel_rfl) (by kernel_rfl) (by kernel_rfl) ?_;intro us d outs hs;have hs0:=hs;unfold Z3 at hs;split at hs
 ·skip;rename_i f u_q b u_p u_inp u_mp;have hq_q:=A6.1 hs;clear hs;obtain⟨q,hd_q,hs⟩:=hq_q;replace hd_q:=F0 hd_q;subst hd_q;have hq_p:=A6.1 hs;clear hs;obtain⟨p,hd_p,hs⟩:=hq_p;replace hd_p:=F0 hd_p;subst hd_p;have hq_inp:=A6.1 hs;clear hs;obtain⟨inp,hd_inp,hs⟩:=hq_inp;replace hd_inp:=F0 hd_inp;subst hd_inp;have hq_mp:=A6.1 hs;clear hs;obtain⟨mp,hd_mp,hs⟩:=hq_mp;replace hd_mp:=F0 hd_mp;subst hd_mp;split at hs
  ·rename_i hc;clear hs hs0;have zf:(f.length:Int)=0∨(f.length:Int)=1:=by rcases hc.1 with rfl|rfl<;>decide
   have zc:=B5t (l:=el q) (b:=b);have zr:=C1x (l:=el q) (b:=b);have zg:=C1y (l:=el q) hc.2.1.2.2.2.2 hc.2.1.2.2.1 hc.2.1.2.2.2.1;refine⟨rfl,?_⟩;unfold C5A;refine w0 (.cons 5 _ (.cons 4 _ (.cons 3 _ (.cons 2 _ (.cons 1 _ (.cons 0 _ (.nil))))))) ?_;repeat (first|refine R1 ?_|(refine w7 [.int .i64 _,A7 rB _,A7 rI _,A7 rQ _] ?_;rotate_left)|refine w4 (fun g=>?_) fun g=>?_|refine A5F ?_|(refine w3 A0G (e:=A0a _ _ _ _ _ _ _ _ _ ⟨rfl,by decide,by omega,by omega,by omega,zg⟩) (k':=?_);show Wk _ _ (.cons _ _ (.cons _ _ (.cons _ _ (.cons _ _ (.cons _ _ _))))))|refine w2 (.nilw 1) (r:=rB) (e:=D9 rfl) (k':=?_)|refine O1 ?_|refine w32 A3d (e:=C1z _ _ hc.2.1) (k':=?_)|refine w2 (.byt) (r:=rB) (e:=A0c _ rfl) (k':=?_)|refine w2 (.cat 1) (r:=rB) (e:=B2O rfl (by first|omega|(rw[I1,C0q];omega)|(show 0+_≤_;omega))) (k':=?_)|refine B8M ?_|refine B2x ?_|refine A1M ?_|(refine w3 A47 (e:=B6T _ ⟨by omega,by omega⟩) (k':=?_);show Wk _ _ (.cons _ _ (.cons _ _ (.cons _ _ (.cons _ _ (.cons _ _ (.cons _ _ (.cons _ _ (.cons _ _ _)))))))))|refine w1 (.bin .or) (e:=C7G (C4b _) (by omega)) (k':=?_)|refine w2 (.snoc 8) (r:=rI) (e:=J4 (a:=(_,_,_,_,_,_,_,_)) rfl rfl (by decide) (by first|omega|(rw[I1,C0q];omega)|(show 0+_≤_;omega))) (k':=?_)|refine B7F ?_|refine w2 (.mk 1) (r:=rB) (e:=L3 [_] rfl (by decide) rfl) (k':=?_))
   all_goals first
    | refine L2 (d:=0) ?_
      rw[A16 f q b p inp mp hc];refine congrArg (fun z=>some (0,z)) ?_;first
      | exact B31 (D0C (by omega))
      | exact B31 (D0B (by omega) (by omega))
      | exact B31 (D0A (by omega) (by omega))
      | exact B31 (C9_ (by omega) (by omega) (by omega))
      | exact B31 (C99 (by omega) (by omega))
      | (exfalso;omega)
  ·cases hs
 ·cases hs
def mdK(s:List UInt8):Prop:=3≤(s.length:Int)∧(Lib.hasPrefix s [27,91,60]=false∨4≤(s.length:Int))∧(Lib.hasPrefix s [27,91,77]=false∨6≤(s.length:Int))∧(s.length:Int)≤100000
instance(s:List UInt8):Decidable (mdK s):=by unfold mdK;infer_instance
theorem nbT{z:Bool}(h:(!z)=true):z=false:=by cases z<;>first|rfl|cases h
theorem nbF{z:Bool}(h:(!z)=false):z=true:=by cases z<;>first|rfl|cases h
def cmX(s:List UInt8)(mp:Option (List Qt)):Option (Int×Int×Int×Int×Int×Int×Int×List UInt8):=match (el mp).find? (fun a=>(s == a.1 && true))with
 | some q=>some q.2
 | none=>if Lib.hasPrefix s [27,91]=true∧mdB s=true then some (2,0,mdN s / 4%8,mdV s,mdN s%4,mdR s,mdC s,[])else none
def cmI(s:List UInt8)(mp:Option (List Qt))(l:Option (List (Int×Int×Int×Int×Int×Int×Int×List UInt8))):Option (List (Int×Int×Int×Int×Int×Int×Int×List UInt8)):=match cmX s mp with
 | some x=>some (el l++[x])
 | none=>l
theorem C0u{s:List UInt8}:∀ {l:List Qt},l.any (fun a=>(s == a.1 && true))=false→l.find? (fun a=>(s == a.1 && true))=none
 | [],_=>rfl
 | a::r,h=>by
   have h:((s == a.1 && true) || r.any (fun a=>(s == a.1 && true)))=false:=h;obtain⟨h1,h2⟩:=N6.1 h;rw[List.find?_cons_of_neg (by rw[h1];decide)];exact C0u h2
theorem C5d{s:List UInt8}:∀ {l:List Qt},l.any (fun a=>(s == a.1 && true))=true→∃ q,l.find? (fun a=>(s == a.1 && true))=some q
 | [],h=>by cases h
 | a::r,h=>by
   cases hq:(s == a.1 && true)with
   | true=>exact⟨a,List.find?_cons_of_pos hq⟩
   | false =>
     have h:((s == a.1 && true) || r.any (fun a=>(s == a.1 && true)))=true:=h;rw[hq,P9]at h;obtain⟨q,hr⟩:=C5d h;exact⟨q,by rw[List.find?_cons_of_neg (by rw[hq];decide)];exact hr⟩
theorem D0M{s:List UInt8}{mp:Option (List Qt)}{l:Option (List (Int×Int×Int×Int×Int×Int×Int×List UInt8))}(h:(el mp).any (fun a=>(s == a.1 && true))=true):some (el l++[(((el mp).find? (fun a=>(s == a.1 && true))).elim 0 (fun a=>a.2.1),((el mp).find? (fun a=>(s == a.1 && true))).elim 0 (fun a=>a.2.2.1),((el mp).find? (fun a=>(s == a.1 && true))).elim 0 (fun a=>a.2.2.2.1),((el mp).find? (fun a=>(s == a.1 && true))).elim 0 (fun a=>a.2.2.2.2.1),((el mp).find? (fun a=>(s == a.1 && true))).elim 0 (fun a=>a.2.2.2.2.2.1),((el mp).find? (fun a=>(s == a.1 && true))).elim 0 (fun a=>a.2.2.2.2.2.2.1),((el mp).find? (fun a=>(s == a.1 && true))).elim 0 (fun a=>a.2.2.2.2.2.2.2.1),((el mp).find? (fun a=>(s == a.1 && true))).elim [] (fun a=>a.2.2.2.2.2.2.2.2))])=cmI s mp l:=by
 obtain⟨q,hq⟩:=C5d h;unfold cmI cmX;rw[hq];rfl
theorem D0L{s:List UInt8}{mp:Option (List Qt)}{l:Option (List (Int×Int×Int×Int×Int×Int×Int×List UInt8))}(h:(el mp).any (fun a=>(s == a.1 && true))=false)(hp:Lib.hasPrefix s [27,91]=true)(hB:mdB s=true):some (el l++[(ifI (mdB s) 2,0,ifI (mdB s) (mdN s / 4%8),ifI (mdB s) (mdV s),ifI (mdB s) (mdN s%4),ifI (mdB s) (mdR s),ifI (mdB s) (mdC s),[])])=cmI s mp l:=by
 unfold cmI cmX;rw[C0u h,hB,if_pos ⟨hp,rfl⟩];rfl
theorem C9Y{s:List UInt8}{mp:Option (List Qt)}{l:Option (List (Int×Int×Int×Int×Int×Int×Int×List UInt8))}(h:(el mp).any (fun a=>(s == a.1 && true))=false)(h2:Lib.hasPrefix s [27,91]=false∨mdB s=false):l=cmI s mp l:=by
 unfold cmI cmX;rw[C0u h];simp only;rw[if_neg (fun hh=>by rcases h2 with h|h<;>rw[h]at hh<;>simp at hh)]
theorem B6v{b d:Option (List (Int×Int×Int×Int×Int×Int×Int×List UInt8))}{mp:Option (List Qt)}(h:b=d):[A7 rB none,A7 rI d,A7 rQ mp]=[A7 rB none,A7 rI b,A7 rQ mp]:=by rw[h]
noncomputable def C6N:List (FuncId×FnC):=(50,I2 Tryz.prog [.a [8,8,8,8,8,8,8,8,8,8,8,3,8],.a [3,3,3,3,3,3,3,9]] d8 [.s 9])::(128,I2 Tryz.prog [.s 9] B0y [.a [3,3,3,3,3,3,3,9],.s 8])::(54,I2 Tryz.prog [.s 9,.s 9] x4 [.s 8])::L0
theorem C1f{G:Nat→Option Obj}(hst:B7 Tryz.prog G gl H0 n0):F6 Tryz.prog G gl C6N:=(.cons (A3R hst) (.cons (C8t hst) (.cons (B6b hst) .nil)))
def A4G:List U→Option (Nat×List U)
 | [.str s,u_p,u_inp,u_mp]=>(J6 rB u_p).bind fun p=>(J6 rI u_inp).bind fun inp=>(J6 rQ u_mp).bind fun mp=>if(Lib.hasPrefix s [27,91]=false∨mdK s)∧((el inp).length:Int)≤900000 then some (0,[A7 rB none,A7 rI (cmI s mp inp),A7 rQ mp])else none
 | _=>none
theorem B2W(s:(List UInt8))(p:(Option (List Int)))(inp:(Option (List (Int×Int×Int×Int×Int×Int×Int×(List UInt8)))))(mp:(Option (List ((List UInt8)×Int×Int×Int×Int×Int×Int×Int×(List UInt8)))))(hc:(Lib.hasPrefix s [27,91]=false∨mdK s)∧((el inp).length:Int)≤900000):A4G [.str s,A7 rB p,A7 rI inp,A7 rQ mp]=some (0,[A7 rB none,A7 rI (cmI s mp inp),A7 rQ mp]):=by
 simp only[A4G,G6,D5];exact if_pos hc
def C0e:Q1:=⟨[(0,.pointer (some ⟨9,0,none⟩)),(1,h 0 9)],[(9,.cells 83 [dat 16 1 11,.map (some 7),own 17 2 18]),(7,.mp 3 19 81),(17,.sq 2 18 23 18),(16,.frz),(18,.frz)],4,[⟨.ret,[(0,.pointer (some ⟨9,0,none⟩))],[(9,.cells 83 [dat 19 0 11,.map (some 7),own 20 1 18]),(7,.mp 2 19 81),(20,.sq 1 18 23 21),(19,.frz),(21,.frz)],3⟩]⟩
noncomputable def C9X:Code:=(Tryz.f105.body).getD .skip
theorem C9W:Tryz.f105.body=some C9X:=rfl
def C5U:Tr:=.lt 3 (.mget 9 1 1) [h 3 19,jI 0,h 0 9]<|.lt 3 (.mget 9 1 2) [h 3 19,jI 0,h 0 9]<|.lt 3 (.mget 9 1 3) [h 3 19,jI 0,h 0 9]<|.lt 3 (.mget 9 1 4) [h 3 19,jI 0,h 0 9]<|.lt 3 (.mget 9 1 5) [h 3 19,jI 0,h 0 9]<|.lt 3 (.mget 9 1 6) [h 3 19,jI 0,h 0 9]<|.lt 3 (.mget 9 1 7) [h 3 19,jI 0,h 0 9]<|.lt 9 (.mget 9 1 8) [h 3 19,.string ⟨⟨[]⟩⟩,h 0 9]<|.lt 8 (.mhas 9 1) [h 3 19,h 0 9]<|aX [h 12 8]<|.br 13 (.fn x4 [h 0 9,.string ⟨⟨[27,91]⟩⟩] 1<|.br 14 (.fn B0y [h 0 9] 9<|.br 23 (.dt 18 (.snoc 8) [h 2 18,h3 15,h3 16,h3 17,h3 18,h3 19,h3 20,h3 21,h 22 9]<|.dt 11 (.nilw 1) []<|.ret [jI 0,h 25 11,h 24 18,h 3 19]) (.dt 11 (.nilw 1) []<|.ret [jI 0,h 24 11,h 2 18,h 3 19])) (.br 12 (.dt 18 (.snoc 8) [h 2 18,h3 4,h3 5,h3 6,h3 7,h3 8,h3 9,h3 10,h 11 9]<|.dt 11 (.nilw 1) []<|.ret [jI 0,h 16 11,h 15 18,h 3 19]) (.dt 11 (.nilw 1) []<|.ret [jI 0,h 15 11,h 2 18,h 3 19]))) (.br 12 (.dt 18 (.snoc 8) [h 2 18,h3 4,h3 5,h3 6,h3 7,h3 8,h3 9,h3 10,h 11 9]<|.dt 11 (.nilw 1) []<|.ret [jI 0,h 15 11,h 14 18,h 3 19]) (.dt 11 (.nilw 1) []<|.ret [jI 0,h 14 11,h 2 18,h 3 19]))
theorem C5V{G:Nat→Option Obj}(hst:B7 Tryz.prog G gl H0 n0):B1X Tryz.prog G gl 105 (A3t Tryz.prog Tryz.f105 gl n0 22 C0e A4G):=by
 refine B12 (C:=cx C6N A4S) (dep:=60) (f:=105) (n0:=n0) (nB:=22) (H0:=H0) C5U (cxg (C1f hst) (A2B hst)) hst Tryz.func105 C9W (by kernel_rfl) (by kernel_rfl) (by kernel_rfl) ?_;intro us d outs hs;have hs0:=hs;unfold A4G at hs;split at hs
 ·skip;rename_i s u_p u_inp u_mp;have hq_p:=A6.1 hs;clear hs;obtain⟨p,hd_p,hs⟩:=hq_p;replace hd_p:=F0 hd_p;subst hd_p;have hq_inp:=A6.1 hs;clear hs;obtain⟨inp,hd_inp,hs⟩:=hq_inp;replace hd_inp:=F0 hd_inp;subst hd_inp;have hq_mp:=A6.1 hs;clear hs;obtain⟨mp,hd_mp,hs⟩:=hq_mp;replace hd_mp:=F0 hd_mp;subst hd_mp;split at hs
  ·rename_i hc;clear hs hs0;refine⟨rfl,?_⟩;unfold C5U;refine w0 (.cons 3 _ (.cons 2 _ (.cons 1 _ (.cons 0 _ (.nil))))) ?_;repeat (first|refine w4 (fun g=>?_) fun g=>?_|refine w4B (fun g=>?_) fun g=>?_|refine w2 (.nilw 1) (r:=rB) (e:=D9 rfl) (k':=?_)|(refine w7 [.int .i64 _,A7 rB _,A7 rI _,A7 rQ _] ?_;rotate_left)|refine w2 (.snoc 8) (r:=rI) (e:=J4 (a:=(_,_,_,_,_,_,_,_)) rfl rfl (by decide) (by omega)) (k':=?_)|refine d7 ?_|refine A3e ?_|refine w1x (.mget 9 1 1) (e:=x7 (U.int .i64) (fun a=>(_ == a.1 && true)) (fun a=>a.2.1) rfl rfl (fun _=>rfl) (fun _=>rfl)) (k':=?_)|refine w1x (.mget 9 1 2) (e:=x7 (U.int .i64) (fun a=>(_ == a.1 && true)) (fun a=>a.2.2.1) rfl rfl (fun _=>rfl) (fun _=>rfl)) (k':=?_)|refine w1x (.mget 9 1 3) (e:=x7 (U.int .i64) (fun a=>(_ == a.1 && true)) (fun a=>a.2.2.2.1) rfl rfl (fun _=>rfl) (fun _=>rfl)) (k':=?_)|refine w1x (.mget 9 1 4) (e:=x7 (U.int .i64) (fun a=>(_ == a.1 && true)) (fun a=>a.2.2.2.2.1) rfl rfl (fun _=>rfl) (fun _=>rfl)) (k':=?_)|refine w1x (.mget 9 1 5) (e:=x7 (U.int .i64) (fun a=>(_ == a.1 && true)) (fun a=>a.2.2.2.2.2.1) rfl rfl (fun _=>rfl) (fun _=>rfl)) (k':=?_)|refine w1x (.mget 9 1 6) (e:=x7 (U.int .i64) (fun a=>(_ == a.1 && true)) (fun a=>a.2.2.2.2.2.2.1) rfl rfl (fun _=>rfl) (fun _=>rfl)) (k':=?_)|refine w1x (.mget 9 1 7) (e:=x7 (U.int .i64) (fun a=>(_ == a.1 && true)) (fun a=>a.2.2.2.2.2.2.2.1) rfl rfl (fun _=>rfl) (fun _=>rfl)) (k':=?_)|refine w1x (.mget 9 1 8) (e:=x7 U.str (fun a=>(_ == a.1 && true)) (fun a=>a.2.2.2.2.2.2.2.2) rfl rfl (fun _=>rfl) (fun _=>rfl)) (k':=?_)|refine w1x (.mhas 9 1) (e:=B4B (fun a=>(_ == a.1 && true)) rfl rfl (fun _=>rfl)) (k':=?_)|refine w31 x4 (e:=A8I _ _) (k':=?_)|(refine w3 B0y (e:=C2k _ (hc.1.resolve_left (by rw[show Lib.hasPrefix s [27,91]=true from(by first|assumption|exact nbT ‹_›|exact nbF ‹_›)];decide))) (k':=?_);show Wk _ _ (.cons _ _ (.cons _ _ (.cons _ _ (.cons _ _ (.cons _ _ (.cons _ _ (.cons _ _ (.cons _ _ (.cons _ _ _)))))))))))
   all_goals first
    | refine L2 (d:=0) ?_
      rw[B2W s p inp mp hc];refine congrArg (fun z=>some (0,z)) ?_;first
      | exact B6v (D0M (by first|assumption|exact nbT ‹_›|exact nbF ‹_›))
      | exact B6v (D0L (by first|assumption|exact nbT ‹_›|exact nbF ‹_›) (by first|assumption|exact nbT ‹_›|exact nbF ‹_›) (by first|assumption|exact nbT ‹_›|exact nbF ‹_›))
      | exact B6v (C9Y (by first|assumption|exact nbT ‹_›|exact nbF ‹_›) (.inl (by first|assumption|exact nbT ‹_›|exact nbF ‹_›)))
      | exact B6v (C9Y (by first|assumption|exact nbT ‹_›|exact nbF ‹_›) (.inr (by first|assumption|exact nbT ‹_›|exact nbF ‹_›)))
      | exact absurd (show(el mp).any (fun a=>(s == a.1 && true))=true from(by first|assumption|exact nbT ‹_›|exact nbF ‹_›)) (by rw[show(el mp).any (fun a=>(s == a.1 && true))=false from(by first|assumption|exact nbT ‹_›|exact nbF ‹_›)];decide)
  ·cases hs
 ·cases hs
def peL:Option (List Int):=some [27,91,50,48,49,126]
def psT(a:Option (List Int)):Option (List Int):=Q2 a (6:Int).toNat ((el a).length:Int).toNat
def psP(a:Option (List Int)):Option (List Int):=if sfX (psT a) peL=true then none else if 1006<((el (psT a)).length:Int)then A6S (some (el (Q2 a (0:Int).toNat (1006:Int).toNat)++[0])) (Q2 a (1008:Int).toNat ((el a).length:Int).toNat)else a
def psI(a:Option (List Int))(l:Option (List (Int×Int×Int×Int×Int×Int×Int×List UInt8))):Option (List (Int×Int×Int×Int×Int×Int×Int×List UInt8)):=if sfX (psT a) peL=true then some (el l++[(3,0,0,0,0,0,0,rmE (iB (el (Q2 (sfP (psT a) peL) (0:Int).toNat (min ((el (sfP (psT a) peL)).length:Int) 1000).toNat))))])else l
theorem A5s{α:Type}{x:Option (List α)}{i j:Nat}:((el (Q2 x i j)).length:Int)≤(el x).length:=by rw[P5,F2,D3];omega
theorem C2A{p u:Option (List Int)}:((el (sfP p u)).length:Int)≤(el p).length:=by
 unfold sfP;split
 ·exact A5s
 ·exact Int.le_refl _
theorem C6f{p u:Option (List Int)}(h:∀ x ∈ el p,0≤x∧x<256):∀ x ∈ el (sfP p u),0≤x∧x<256:=by
 unfold sfP;split
 ·exact A4M h
 ·exact h
theorem C8J{a c:Option (List Int)}{b d:Option (List (Int×Int×Int×Int×Int×Int×Int×List UInt8))}{mp:Option (List Qt)}(h1:a=c)(h2:b=d):[A7 rB c,A7 rI d,A7 rQ mp]=[A7 rB a,A7 rI b,A7 rQ mp]:=by rw[h1,h2]
theorem C91{a:Option (List Int)}{l:Option (List (Int×Int×Int×Int×Int×Int×Int×List UInt8))}(h:sfX (psT a) peL=true):none=psP a∧some (el l++[(3,0,0,0,0,0,0,rmE (iB (el (Q2 (sfP (psT a) peL) (0:Int).toNat (min ((el (sfP (psT a) peL)).length:Int) 1000).toNat))))])=psI a l:=by unfold psP psI;rw[if_pos h,if_pos h];exact⟨rfl,rfl⟩
theorem C93{a:Option (List Int)}{l:Option (List (Int×Int×Int×Int×Int×Int×Int×List UInt8))}(h:sfX (psT a) peL=false)(h2:1006<((el (psT a)).length:Int)):A6S (some (el (Q2 a (0:Int).toNat (1006:Int).toNat)++[0])) (Q2 a (1008:Int).toNat ((el a).length:Int).toNat)=psP a∧l=psI a l:=by unfold psP psI;rw[if_neg (by rw[h];decide),if_pos h2,if_neg (by rw[h];decide)];exact⟨rfl,rfl⟩
theorem C92{a:Option (List Int)}{l:Option (List (Int×Int×Int×Int×Int×Int×Int×List UInt8))}(h:sfX (psT a) peL=false)(h2:¬1006<((el (psT a)).length:Int)):a=psP a∧l=psI a l:=by unfold psP psI;rw[if_neg (by rw[h];decide),if_neg h2,if_neg (by rw[h];decide)];exact⟨rfl,rfl⟩
theorem C8R:∀ x ∈ el peL,0≤x∧x<256:=by decide
theorem A7W{a c:Option (List Int)}{b d:Option (List (Int×Int×Int×Int×Int×Int×Int×List UInt8))}{mp:Option (List Qt)}(h:a=c∧b=d):[A7 rB c,A7 rI d,A7 rQ mp]=[A7 rB a,A7 rI b,A7 rQ mp]:=C8J h.1 h.2
noncomputable def C52:List (FuncId×FnC):=(50,I2 Tryz.prog [.a [8,8,8,8,8,8,8,8,8,8,8,3,8],.a [3,3,3,3,3,3,3,9]] d8 [.s 9])::(145,I2 Tryz.prog [.s 11,.s 11] A9a [.s 11,.s 8])::(29,I2 Tryz.prog [.s 9,.s 9,.s 9] B0c [.s 9])::L0
theorem C1J{G:Nat→Option Obj}(hst:B7 Tryz.prog G gl H0 n0):F6 Tryz.prog G gl C52:=(.cons (A3R hst) (.cons (C9Q hst) (.cons (C8B hst) .nil)))
def A8x:List U→Option (Nat×List U)
 | [u_a,u_p,u_inp,u_mp]=>(J6 rB u_a).bind fun a=>(J6 rB u_p).bind fun p=>(J6 rI u_inp).bind fun inp=>(J6 rQ u_mp).bind fun mp=>if 6≤((el a).length:Int)∧((el a).length:Int)≤100000∧(∀ x ∈ el a,0≤x∧x<256)∧((el inp).length:Int)≤900000 then some (0,[A7 rB (psP a),A7 rI (psI a inp),A7 rQ mp])else none
 | _=>none
theorem B6C(a:(Option (List Int)))(p:(Option (List Int)))(inp:(Option (List (Int×Int×Int×Int×Int×Int×Int×(List UInt8)))))(mp:(Option (List ((List UInt8)×Int×Int×Int×Int×Int×Int×Int×(List UInt8)))))(hc:6≤((el a).length:Int)∧((el a).length:Int)≤100000∧(∀ x ∈ el a,0≤x∧x<256)∧((el inp).length:Int)≤900000):A8x [A7 rB a,A7 rB p,A7 rI inp,A7 rQ mp]=some (0,[A7 rB (psP a),A7 rI (psI a inp),A7 rQ mp]):=by
 simp only[A8x,G6,D5];exact if_pos hc
def C4U:Q1:=⟨[(0,.pointer (some ⟨9,0,none⟩)),(1,dat 16 0 11)],[(9,.cells 83 [dat 17 1 11,.map (some 7),own 18 2 18]),(7,.mp 3 19 81),(18,.sq 2 18 23 19),(16,.frz),(17,.frz),(19,.frz)],4,[⟨.ret,[(0,.pointer (some ⟨9,0,none⟩))],[(9,.cells 83 [dat 20 0 11,.map (some 7),own 21 1 18]),(7,.mp 2 19 81),(21,.sq 1 18 23 22),(20,.frz),(22,.frz)],3⟩]⟩
noncomputable def C8M:Code:=(Tryz.f129.body).getD .skip
theorem C8L:Tryz.f129.body=some C8M:=rfl
def C4T:Tr:=aD [h 0 11]<|.dt 11 (.subs 1) [h 0 11,jI 6,h3 4]<|.dt 11 (.mk 1) [.int .u8 (27),.int .u8 (91),.int .u8 (50),.int .u8 (48),.int .u8 (49),.int .u8 (126)]<|.fn A9a [h 5 11,h 6 11] 2<|.br 8 (aD [h 7 11]<|.lt 3 (.min) [h3 9,jI 1000]<|.dt 11 (.subs 1) [h 7 11,jI 0,h3 10]<|.lt 9 (.str) [h 11 11]<|.fn B0c [h 12 9,.string ⟨⟨[27]⟩⟩,.string ⟨⟨[]⟩⟩] 1<|.dt 18 (.snoc 8) [h 2 18,jI 3,jI 0,jI 0,jI 0,jI 0,jI 0,jI 0,h 13 9]<|.dt 11 (.nilw 1) []<|.ret [jI 0,h 15 11,h 14 18,h 3 19]) (aD [h 5 11]<|aG [h3 9,jI 1006]<|.br 10 (.dt 11 (.subs 1) [h 0 11,jI 0,jI 1006]<|.dt 11 (.snoc 1) [h 11 11,.int .u8 (0)]<|.dt 11 (.subs 1) [h 0 11,jI 1008,h3 4]<|.dt 11 (.cat 1) [h 12 11,h 13 11]<|.ret [jI 0,h 14 11,h 2 18,h 3 19]) (.ret [jI 0,h 0 11,h 2 18,h 3 19]))
theorem C8K{G:Nat→Option Obj}(hst:B7 Tryz.prog G gl H0 n0):B1X Tryz.prog G gl 129 (A3t Tryz.prog Tryz.f129 gl n0 23 C4U A8x):=by
 refine B12 (C:=cx C52 A4S) (dep:=60) (f:=129) (n0:=n0) (nB:=23) (H0:=H0) C4T (cxg (C1J hst) (A2B hst)) hst Tryz.func129 C8L (by kernel_rfl) (by kernel_rfl) (by kernel_rfl) ?_;intro us d outs hs;have hs0:=hs;unfold A8x at hs;split at hs
 ·skip;rename_i u_a u_p u_inp u_mp;have hq_a:=A6.1 hs;clear hs;obtain⟨a,hd_a,hs⟩:=hq_a;replace hd_a:=F0 hd_a;subst hd_a;have hq_p:=A6.1 hs;clear hs;obtain⟨p,hd_p,hs⟩:=hq_p;replace hd_p:=F0 hd_p;subst hd_p;have hq_inp:=A6.1 hs;clear hs;obtain⟨inp,hd_inp,hs⟩:=hq_inp;replace hd_inp:=F0 hd_inp;subst hd_inp;have hq_mp:=A6.1 hs;clear hs;obtain⟨mp,hd_mp,hs⟩:=hq_mp;replace hd_mp:=F0 hd_mp;subst hd_mp;split at hs
  ·rename_i hc;clear hs hs0;have z6:((el (Q2 a (6:Int).toNat ((el a).length:Int).toNat)).length:Int)=(el (psT a)).length:=rfl;have z1:((el (psT a)).length:Int)=(el a).length-6:=by unfold psT;rw[P5,F2,D3];omega
   have z2:((el (sfP (psT a) peL)).length:Int)≤(el (psT a)).length:=C2A;have z3:((el (Q2 (sfP (psT a) peL) (0:Int).toNat (min ((el (sfP (psT a) peL)).length:Int) 1000).toNat)).length:Int)≤(el (sfP (psT a) peL)).length:=A5s;have z4:((el (Q2 a (0:Int).toNat (1006:Int).toNat)).length:Int)≤(el a).length:=A5s;have z5:((el (Q2 a (1008:Int).toNat ((el a).length:Int).toNat)).length:Int)≤(el a).length:=A5s;refine⟨rfl,?_⟩;unfold C4T;refine w0 (.cons 3 _ (.cons 2 _ (.cons 1 _ (.cons 0 _ (.nil))))) ?_;repeat (first|refine w2 (.subs 1) (r:=rB) (e:=I7 rfl (by omega) (by omega) (by omega)) (k':=?_)|refine R1 ?_|refine w4 (fun g=>?_) fun g=>?_|refine w4B (fun g=>?_) fun g=>?_|(refine w7 [.int .i64 _,A7 rB _,A7 rI _,A7 rQ _] ?_;rotate_left)|refine w2 (.mk 1) (r:=rB) (e:=L3 [_,_,_,_,_,_] rfl (by decide) rfl) (k':=?_)|refine w32 A9a (e:=C3G (psT a) peL ⟨by omega,by decide,A4M hc.2.2.1,C8R⟩) (k':=?_)|refine B7E ?_|refine w1 (.str) (e:=A0b rfl (by exact A4M (C6f (A4M hc.2.2.1)))) (k':=?_)|refine w31 B0c (e:=C2E _ _ _ ⟨by rw[j8];omega,rfl,rfl⟩) (k':=?_)|refine w2 (.snoc 8) (r:=rI) (e:=J4 (a:=(_,_,_,_,_,_,_,_)) rfl rfl (by decide) (by first|omega|(rw[I1,B1,F7];omega))) (k':=?_)|refine w2 (.nilw 1) (r:=rB) (e:=D9 rfl) (k':=?_)|refine A5F ?_|refine w2 (.snoc 1) (r:=rB) (e:=J4 rfl rfl (by decide) (by first|omega|(rw[I1,B1,F7];omega))) (k':=?_)|refine w2 (.cat 1) (r:=rB) (e:=B2O rfl (by first|omega|(rw[I1,B1,F7];omega))) (k':=?_))
   all_goals first
    | refine L2 (d:=0) ?_
      rw[B6C a p inp mp hc];refine congrArg (fun z=>some (0,z)) ?_;first
      | exact A7W (C91 ‹_›)
      | exact A7W (C93 ‹_› ‹_›)
      | exact A7W (C92 ‹_› ‹_›)
  ·cases hs
 ·cases hs
def sqH(s:List UInt8):Nat:=if(s.length:Int)>24 then 4 else 1
def sqG(s:List UInt8)(b:Int):Nat:=if b≥32 then(if b≤63 then sqH s else 3)else 3
def sqF(s:List UInt8)(b:Int):Nat:=if Lib.hasPrefix s [27,91,77]=true then 2 else if b≥64 then(if b≤126 then 2 else sqG s b)else sqG s b
def sqE(s:List UInt8)(b:Int):Nat:=if s=[27,91,50,48,48,126]then 1 else sqF s b
def sqD(s:List UInt8)(b:Int):Nat:=if Lib.hasPrefix s [27,91,77]=true then(if(s.length:Int)<6 then 1 else sqE s b)else sqE s b
def sqC(s:List UInt8)(b:Int):Nat:=if Lib.hasPrefix s [27,91,50,48,48,126]=true then(if s≠[27,91,50,48,48,126]then 0 else sqD s b)else sqD s b
def sqP(a:Option (List Int))(b:Int):Option (List Int):=match sqC (iB (el a)) b with
 | 0=>psP a
 | 1=>a
 | 2=>none
 | 3=>fsP [] none b
 | _=>none
def sqI(a:Option (List Int))(b:Int)(mp:Option (List Qt))(l:Option (List (Int×Int×Int×Int×Int×Int×Int×List UInt8))):Option (List (Int×Int×Int×Int×Int×Int×Int×List UInt8)):=match sqC (iB (el a)) b with
 | 0=>psI a l
 | 1=>l
 | 2=>cmI (iB (el a)) mp l
 | 3=>fsI [] none b l
 | _=>l
theorem C9u{a:Option (List Int)}{b:Int}{mp:Option (List Qt)}{l:Option (List (Int×Int×Int×Int×Int×Int×Int×List UInt8))}(h:sqC (iB (el a)) b=0):psP a=sqP a b∧psI a l=sqI a b mp l:=by unfold sqP sqI;rw[h];exact⟨rfl,rfl⟩
theorem C9t{a:Option (List Int)}{b:Int}{mp:Option (List Qt)}{l:Option (List (Int×Int×Int×Int×Int×Int×Int×List UInt8))}(h:sqC (iB (el a)) b=1):a=sqP a b∧l=sqI a b mp l:=by unfold sqP sqI;rw[h];exact⟨rfl,rfl⟩
theorem C9s{a:Option (List Int)}{b:Int}{mp:Option (List Qt)}{l:Option (List (Int×Int×Int×Int×Int×Int×Int×List UInt8))}(h:sqC (iB (el a)) b=2):none=sqP a b∧cmI (iB (el a)) mp l=sqI a b mp l:=by unfold sqP sqI;rw[h];exact⟨rfl,rfl⟩
theorem C9r{a:Option (List Int)}{b:Int}{mp:Option (List Qt)}{l:Option (List (Int×Int×Int×Int×Int×Int×Int×List UInt8))}(h:sqC (iB (el a)) b=3):fsP [] none b=sqP a b∧fsI [] none b l=sqI a b mp l:=by unfold sqP sqI;rw[h];exact⟨rfl,rfl⟩
theorem C9q{a:Option (List Int)}{b:Int}{mp:Option (List Qt)}{l:Option (List (Int×Int×Int×Int×Int×Int×Int×List UInt8))}(h:sqC (iB (el a)) b=4):none=sqP a b∧l=sqI a b mp l:=by unfold sqP sqI;rw[h];exact⟨rfl,rfl⟩
theorem ntf{z:Bool}(h:z=false):¬z=true:=by rw[h];decide
theorem dq1{s:List UInt8}(h:¬s≠[27,91,50,48,48,126])(h2:Lib.hasPrefix s [27,91,77]=true):False:=by rw[C6.1 h]at h2;exact absurd h2 (by decide)
theorem dq2{s:List UInt8}(h:¬s≠[27,91,50,48,48,126])(h2:¬s=[27,91,50,48,48,126]):False:=h h2
theorem dq3{s:List UInt8}(h:Lib.hasPrefix s [27,91,50,48,48,126]=false)(h2:s=[27,91,50,48,48,126]):False:=by rw[h2]at h;exact absurd h (by decide)
theorem dq4{z:Bool}(h:z=true)(h2:z=false):False:=by rw[h]at h2;cases h2
theorem B5R:∀ {u s:List UInt8},Lib.hasPrefix s u=true→u.length≤s.length
 | [],_,_=>s9 _
 | _::_,[],h=>by cases h
 | a::u,b::s,h=>by
   have h:((a == b) && Lib.hasPrefix s u)=true:=h
   have:=B5R (K3 h).2;simp only[B9];omega
noncomputable def C5w:List (FuncId×FnC):=(50,I2 Tryz.prog [.a [8,8,8,8,8,8,8,8,8,8,8,3,8],.a [3,3,3,3,3,3,3,9]] d8 [.s 9])::(54,I2 Tryz.prog [.s 9,.s 9] x4 [.s 8])::(99,A3t Tryz.prog Tryz.f99 gl n0 21 B94 Z3)::(105,A3t Tryz.prog Tryz.f105 gl n0 22 C0e A4G)::(129,A3t Tryz.prog Tryz.f129 gl n0 23 C4U A8x)::L0
theorem C1D{G:Nat→Option Obj}(hst:B7 Tryz.prog G gl H0 n0):F6 Tryz.prog G gl C5w:=(.cons (A3R hst) (.cons (B6b hst) (.consM (C5B hst) (.consM (C5V hst) (.consM (C8K hst) .nil)))))
def A8g:List U→Option (Nat×List U)
 | [u_a,.int .u8 b,u_p,u_inp,u_mp]=>(J6 rB u_a).bind fun a=>(J6 rB u_p).bind fun p=>(J6 rI u_inp).bind fun inp=>(J6 rQ u_mp).bind fun mp=>if 3≤((el a).length:Int)∧((el a).length:Int)≤100000∧(∀ x ∈ el a,0≤x∧x<256)∧(0≤b∧b<256)∧(Lib.hasPrefix (iB (el a)) [27,91,60]=false∨4≤((el a).length:Int)∨b=60)∧((el inp).length:Int)≤900000 then some (0,[A7 rB (sqP a b),A7 rI (sqI a b mp inp),A7 rQ mp])else none
 | _=>none
theorem B50(a:(Option (List Int)))(b:Int)(p:(Option (List Int)))(inp:(Option (List (Int×Int×Int×Int×Int×Int×Int×(List UInt8)))))(mp:(Option (List ((List UInt8)×Int×Int×Int×Int×Int×Int×Int×(List UInt8)))))(hc:3≤((el a).length:Int)∧((el a).length:Int)≤100000∧(∀ x ∈ el a,0≤x∧x<256)∧(0≤b∧b<256)∧(Lib.hasPrefix (iB (el a)) [27,91,60]=false∨4≤((el a).length:Int)∨b=60)∧((el inp).length:Int)≤900000):A8g [A7 rB a,.int .u8 b,A7 rB p,A7 rI inp,A7 rQ mp]=some (0,[A7 rB (sqP a b),A7 rI (sqI a b mp inp),A7 rQ mp]):=by
 simp only[A8g,G6,D5];exact if_pos hc
def C39:Q1:=⟨[(0,.pointer (some ⟨9,0,none⟩)),(1,dat 33 0 11),(2,h 1 4)],[(9,.cells 83 [dat 34 2 11,.map (some 7),own 35 3 18]),(7,.mp 4 19 81),(35,.sq 3 18 23 36),(33,.frz),(34,.frz),(36,.frz)],5,[⟨.ret,[(0,.pointer (some ⟨9,0,none⟩))],[(9,.cells 83 [dat 37 0 11,.map (some 7),own 38 1 18]),(7,.mp 2 19 81),(38,.sq 1 18 23 39),(37,.frz),(39,.frz)],3⟩]⟩
noncomputable def C74:Code:=(Tryz.f107.body).getD .skip
theorem C73:Tryz.f107.body=some C74:=rfl
def C38:Tr:=.lt 9 (.str) [h 0 11]<|.fn x4 [h 5 9,.string ⟨⟨[27,91,50,48,48,126]⟩⟩] 1<|.br 6 (aN [h 5 9,.string ⟨⟨[27,91,50,48,48,126]⟩⟩]<|.br 7 (.fn A8x [h 0 11,h 2 11,h 3 18,h 4 19] 3<|.ret [jI 0,h 8 11,h 9 18,h 10 19]) (.fn x4 [h 5 9,.string ⟨⟨[27,91,77]⟩⟩] 1<|.br 8 (.no) (aE [h 5 9,.string ⟨⟨[27,91,50,48,48,126]⟩⟩]<|.br 9 (.ret [jI 0,h 0 11,h 3 18,h 4 19]) (.no)))) (.fn x4 [h 5 9,.string ⟨⟨[27,91,77]⟩⟩] 1<|.br 7 (aD [h 5 9]<|aL [h3 8,jI 6]<|.br 9 (.ret [jI 0,h 0 11,h 3 18,h 4 19]) (aE [h 5 9,.string ⟨⟨[27,91,50,48,48,126]⟩⟩]<|.br 10 (.no) (.fn x4 [h 5 9,.string ⟨⟨[27,91,77]⟩⟩] 1<|.br 11 (.fn A4G [h 5 9,h 2 11,h 3 18,h 4 19] 3<|.ret [jI 0,h 12 11,h 13 18,h 14 19]) (.no)))) (aE [h 5 9,.string ⟨⟨[27,91,50,48,48,126]⟩⟩]<|.br 8 (.no) (.fn x4 [h 5 9,.string ⟨⟨[27,91,77]⟩⟩] 1<|.br 9 (.no) (.lt 3 (.conv .i64) [h 1 4]<|aH [h3 10,jI 64]<|.br 11 (aQ [h3 10,jI 126]<|.br 12 (.fn A4G [h 5 9,h 2 11,h 3 18,h 4 19] 3<|.ret [jI 0,h 13 11,h 14 18,h 15 19]) (.lt 3 (.conv .i64) [h 1 4]<|aH [h3 13,jI 32]<|.br 14 (aQ [h3 13,jI 63]<|aX [h 15 8]<|.br 16 (.dt 11 (.nilw 1) []<|.fn Z3 [.string ⟨⟨[]⟩⟩,h 17 11,h 1 4,h 2 11,h 3 18,h 4 19] 3<|.ret [jI 0,h 18 11,h 19 18,h 20 19]) (aD [h 5 9]<|aG [h3 17,jI 24]<|.br 18 (.dt 11 (.nilw 1) []<|.ret [jI 0,h 19 11,h 3 18,h 4 19]) (.ret [jI 0,h 0 11,h 3 18,h 4 19]))) (.dt 11 (.nilw 1) []<|.fn Z3 [.string ⟨⟨[]⟩⟩,h 15 11,h 1 4,h 2 11,h 3 18,h 4 19] 3<|.ret [jI 0,h 16 11,h 17 18,h 18 19]))) (.lt 3 (.conv .i64) [h 1 4]<|aH [h3 12,jI 32]<|.br 13 (aQ [h3 12,jI 63]<|aX [h 14 8]<|.br 15 (.dt 11 (.nilw 1) []<|.fn Z3 [.string ⟨⟨[]⟩⟩,h 16 11,h 1 4,h 2 11,h 3 18,h 4 19] 3<|.ret [jI 0,h 17 11,h 18 18,h 19 19]) (aD [h 5 9]<|aG [h3 16,jI 24]<|.br 17 (.dt 11 (.nilw 1) []<|.ret [jI 0,h 18 11,h 3 18,h 4 19]) (.ret [jI 0,h 0 11,h 3 18,h 4 19]))) (.dt 11 (.nilw 1) []<|.fn Z3 [.string ⟨⟨[]⟩⟩,h 14 11,h 1 4,h 2 11,h 3 18,h 4 19] 3<|.ret [jI 0,h 15 11,h 16 18,h 17 19]))))))
theorem C72{G:Nat→Option Obj}(hst:B7 Tryz.prog G gl H0 n0):B1X Tryz.prog G gl 107 (A3t Tryz.prog Tryz.f107 gl n0 40 C39 A8g):=by
 refine B12 (C:=cx C5w A4S) (dep:=60) (f:=107) (n0:=n0) (nB:=40) (H0:=H0) C38 (cxg (C1D hst) (A2B hst)) hst Tryz.func107 C73 (by kernel_rfl) (by kernel_rfl) (by kernel_rfl) ?_;intro us d outs hs;have hs0:=hs;unfold A8g at hs;split at hs
 ·skip;rename_i u_a b u_p u_inp u_mp;have hq_a:=A6.1 hs;clear hs;obtain⟨a,hd_a,hs⟩:=hq_a;replace hd_a:=F0 hd_a;subst hd_a;have hq_p:=A6.1 hs;clear hs;obtain⟨p,hd_p,hs⟩:=hq_p;replace hd_p:=F0 hd_p;subst hd_p;have hq_inp:=A6.1 hs;clear hs;obtain⟨inp,hd_inp,hs⟩:=hq_inp;replace hd_inp:=F0 hd_inp;subst hd_inp;have hq_mp:=A6.1 hs;clear hs;obtain⟨mp,hd_mp,hs⟩:=hq_mp;replace hd_mp:=F0 hd_mp;subst hd_mp;split at hs
  ·rename_i hc;clear hs hs0;have zs:((iB (el a)).length:Int)=((el a).length:Int):=by rw[j8]
   refine⟨rfl,?_⟩;unfold C38;refine w0 (.cons 4 _ (.cons 3 _ (.cons 2 _ (.cons 1 _ (.cons 0 _ (.nil)))))) ?_;repeat (first|refine w4 (fun g=>?_) fun g=>?_|refine w4B (fun g=>?_) fun g=>?_|(refine w7 [.int .i64 _,A7 rB _,A7 rI _,A7 rQ _] ?_;rotate_left)|(refine w8 ?_;(first|exact dq1 ‹_› ‹_›|exact dq2 ‹_› ‹_›|exact dq3 ‹_› ‹_›|exact dq4 ‹_› ‹_›))|refine u5 ?_|refine Y7 ?_|refine w2 (.nilw 1) (r:=rB) (e:=D9 rfl) (k':=?_)|refine w31 x4 (e:=A8I _ _) (k':=?_)|(refine w3 Z3 (e:=A16 [] none b p inp mp ⟨.inl rfl,⟨by decide,.inl rfl,by omega,by omega,fun x hx=>by cases hx⟩,by omega⟩) (k':=?_);show Wk _ _ (.cons _ _ (.cons _ _ (.cons _ _ _))))|refine C13 ?_|refine B7F ?_|refine A06 ?_|refine A5E ?_|(refine w3 A4G (e:=B2W _ p inp mp ⟨.inr ⟨by omega,hc.2.2.2.2.1.imp id fun h=>by omega,(by first|exact .inl ‹_›|exact .inr (by omega)),by omega⟩,by omega⟩) (k':=?_);show Wk _ _ (.cons _ _ (.cons _ _ (.cons _ _ _))))|refine d7 ?_|refine A5F ?_|refine w1 (.str) (e:=A0b rfl (by exact hc.2.2.1)) (k':=?_)|refine A6f ?_|(refine w3 A8x (e:=B6C a p inp mp ⟨by have:=B5R (u:=[27,91,50,48,48,126]) (s:=iB (el a)) ‹_›;simp only[B9,E3]at this;omega,by omega,hc.2.2.1,by omega⟩) (k':=?_);show Wk _ _ (.cons _ _ (.cons _ _ (.cons _ _ _))))|refine A1M ?_)
   all_goals first
    | refine L2 (d:=0) ?_
      rw[B50 a b p inp mp hc];refine congrArg (fun z=>some (0,z)) ?_;first
      | exact A7W (C9u (by unfold sqC sqD sqE sqF sqG sqH;repeat (first|rw[if_pos ‹_›]|rw[if_neg (ntf ‹_›)]|rw[if_neg ‹_›]|rw[if_pos (by omega)]|rw[if_neg (by omega)])))
      | exact A7W (C9t (by unfold sqC sqD sqE sqF sqG sqH;repeat (first|rw[if_pos ‹_›]|rw[if_neg (ntf ‹_›)]|rw[if_neg ‹_›]|rw[if_pos (by omega)]|rw[if_neg (by omega)])))
      | exact A7W (C9s (by unfold sqC sqD sqE sqF sqG sqH;repeat (first|rw[if_pos ‹_›]|rw[if_neg (ntf ‹_›)]|rw[if_neg ‹_›]|rw[if_pos (by omega)]|rw[if_neg (by omega)])))
      | exact A7W (C9r (by unfold sqC sqD sqE sqF sqG sqH;repeat (first|rw[if_pos ‹_›]|rw[if_neg (ntf ‹_›)]|rw[if_neg ‹_›]|rw[if_pos (by omega)]|rw[if_neg (by omega)])))
      | exact A7W (C9q (by unfold sqC sqD sqE sqF sqG sqH;repeat (first|rw[if_pos ‹_›]|rw[if_neg (ntf ‹_›)]|rw[if_neg ‹_›]|rw[if_pos (by omega)]|rw[if_neg (by omega)])))
  ·cases hs
 ·cases hs
abbrev Xt:=(Int×Int×Int×Int×Int×Int×Int×List UInt8)
def By(l:List Int):Prop:=∀ x ∈ l,0≤x∧x<256
def Iv(p:Option (List Int)):Prop:=((el p).length:Int)≤1012∧(∀ x ∈ el p,0≤x∧x<256)∧(el p=[]∨knd (el p)=1∨((el p).getD 0 0=27∧(((el p).length:Int)=1∨(2≤((el p).length:Int)∧((el p).getD 1 0<128∨knd ((el p).drop 1)=1)))))
instance(p:Option (List Int)):Decidable (Iv p):=by unfold Iv;infer_instance
def stP(p:Option (List Int))(b:Int):Option (List Int) :=
 if((el p).length:Int)=0 then fsP [] p b
 else if(el p).getD 0 0≥128 then fsP [] p b
 else if iB (el p)≠[27]then
  if(el p).getD 1 0≥128 then fsP [27] (Q2 p 1 (el p).length) b
  else if Lib.hasPrefix (iB (el p)) [27,79]=true then(if b≥64 then(if b≤126 then none else fsP [] none b)else fsP [] none b)
  else sqP (some (el p++[b])) b
 else if b=27 then p else if b=91 then some (el p++[b])else if b=79 then some (el p++[b])else fsP [27] none b
def stI(p:Option (List Int))(b:Int)(mp:Option (List Qt))(l:Option (List Xt)):Option (List Xt) :=
 if((el p).length:Int)=0 then fsI [] p b l
 else if(el p).getD 0 0≥128 then fsI [] p b l
 else if iB (el p)≠[27]then
  if(el p).getD 1 0≥128 then fsI [27] (Q2 p 1 (el p).length) b l
  else if Lib.hasPrefix (iB (el p)) [27,79]=true then(if b≥64 then(if b≤126 then cmI (iB (el p++[b])) mp l else fsI [] none b l)else fsI [] none b l)
  else sqI (some (el p++[b])) b mp l
 else if b=27 then some (el l++[(1,1114138,0,0,0,0,0,[])])else if b=91 then l else if b=79 then l else fsI [27] none b l
def rnP:List Int→Option (List Int)→Option (List Int)
 | [],p=>p
 | b::r,p=>rnP r (stP p b)
def rnI:List Int→Option (List Int)→Option (List Qt)→Option (List Xt)→Option (List Xt)
 | [],_,_,l=>l
 | b::r,p,mp,l=>rnI r (stP p b) mp (stI p b mp l)
theorem C8D{l:List Int}{i:Int}{p:Option (List Int)}(h:¬i<(l.length:Int)):rnP (l.drop i.toNat) p=p:=by rw[A1k l (by omega)];rfl
theorem C8E{l:List Int}{i:Int}{p:Option (List Int)}{mp:Option (List Qt)}{x:Option (List Xt)}(h:¬i<(l.length:Int)):rnI (l.drop i.toNat) p mp x=x:=by rw[A1k l (by omega)];rfl
theorem A3k{l:List Int}{i:Int}(p:Option (List Int))(h0:0≤i)(h1:i<(l.length:Int)):rnP (l.drop i.toNat) p=rnP (l.drop (i+1).toNat) (stP p (l.getD i.toNat default)):=by rw[X8 l h0 h1];rfl
theorem A3l{l:List Int}{i:Int}(p:Option (List Int))(mp:Option (List Qt))(x:Option (List Xt))(h0:0≤i)(h1:i<(l.length:Int)):rnI (l.drop i.toNat) p mp x=rnI (l.drop (i+1).toNat) (stP p (l.getD i.toNat default)) mp (stI p (l.getD i.toNat default) mp x):=by rw[X8 l h0 h1];rfl
theorem B0w{l:List Int}(hne:l≠[])(h:knd l=1):128≤l.getD 0 0:=by
 have h5:1≤l.length:=V5.2 hne;unfold knd at h;split at h
 ·omega
 ·split at h
  ·split at h
   ·rename_i h4;have hl:1<R8 (l.getD 0 0):=by omega
    unfold R8 at hl;(repeat' split at hl)<;>omega
   ·omega
  ·omega
theorem A3A{l:List Int}{b:Int}(h:By l)(h0:0≤b)(h1:b<256):By (l++[b]):=fun x hx=>by
 rcases B0.1 hx with hx|hx
 ·exact h x hx
 ·have:x=b:=by simpa using hx
  omega
theorem C3P{b:Int}(h0:0≤b)(h1:b<256):By [b]:=fun x hx=>by
 have:x=b:=by simpa using hx
 omega
theorem o9:Iv none:=⟨by decide,fun x hx=>(by cases hx),.inl rfl⟩
theorem C4w:Iv (some [27]):=⟨by decide,C3P (by decide) (by decide),.inr (.inr ⟨rfl,.inl rfl⟩)⟩
theorem C83{x:List Int}(h:knd x=1)(hb:By x):Iv (some x):=⟨by have:=A32 h;show(x.length:Int)≤_;omega,hb,.inr (.inl h)⟩
theorem C65{x:List Int}(h4:x≠[])(h:knd x=1)(hb:By x):Iv (some (27::x)):=by
 have h3:=A32 h;have h5:1≤x.length:=V5.2 h4;refine⟨?_,?_,.inr (.inr ⟨rfl,.inr ⟨?_,.inr h⟩⟩)⟩
 ·show((27::x).length:Int)≤_;simp only[B9];omega
 ·intro y hy;rcases B6.1 hy with rfl|hy
  ·omega
  ·exact hb y hy
 ·show 2≤((27::x).length:Int);simp only[B9];omega
theorem C7w{l:List Int}{b:Int}(hl:By l)(h0:0≤b)(h1:b<256):utR l b=none∨∃ x,utR l b=some x∧knd x=1∧By x∧x≠[]:=by
 unfold utR;split
 ·exact .inl rfl
 ·split
  ·rename_i h;exact .inr ⟨_,rfl,h,A3A hl h0 h1,by simp⟩
  ·split
   ·exact .inl rfl
   ·unfold B7C;split
    ·rename_i h;exact .inr ⟨_,rfl,h,C3P h0 h1,by simp⟩
    ·exact .inl rfl
theorem C3L:∀ (l:List Int) (p:Option (List Int)),cP l p=p∨cP l p=none∨cP l p=some [27]
 | [],p=>.inl rfl
 | c::r,p=>by
   unfold cP;split
   ·split
    ·rcases C3L r (some [27])with h|h|h
     ·exact .inr (.inr h)
     ·exact .inr (.inl h)
     ·exact .inr (.inr h)
    ·rcases C3L r none with h|h|h
     ·exact .inr (.inl h)
     ·exact .inr (.inl h)
     ·exact .inr (.inr h)
   ·exact C3L r p
theorem B00{f:List UInt8}{q:Option (List Int)}{b:Int}(hf:f=[]∨f=[27])(hq:By (el q))(h0:0≤b)(h1:b<256):Iv (fsP f q b):=by
 unfold fsP;split
 ·exact C4w
 ·split
  ·exact o9
  ·have hu:=C7w (l:=el q) hq h0 h1;split
   ·rcases hu with h|⟨x,h,hk,hx,hne⟩
    ·rw[h];exact o9
    ·rw[h];exact C83 hk hx
   ·have hf1:Iv (fs1 f (utR (el q) b)):=by
     unfold fs1;split
     ·rcases hu with h|⟨x,h,hk,hx,hne⟩
      ·rename_i h2;rw[h]at h2;exact absurd h2 (by decide)
      ·rw[h];rcases hf with rfl|rfl
       ·show Iv (A6S (some []) (some x));cases x with
        | nil=>exact absurd rfl hne
        | cons a r=>exact C83 hk hx
       ·show Iv (A6S (some [27]) (some x));cases x with
        | nil=>exact absurd rfl hne
        | cons a r=>exact C65 hne hk hx
     ·exact o9
    rcases C3L (el (utC (el q) b)) (fs1 f (utR (el q) b))with h|h|h
    ·rw[h];exact hf1
    ·rw[h];exact o9
    ·rw[h];exact C4w
theorem A9A{l:List Int}(hl:(l.length:Int)≤1012)(hb:By l)(h2:2≤(l.length:Int))(h27:l.getD 0 0=27)(h128:l.getD 1 0<128):Iv (some l):=⟨hl,hb,.inr (.inr ⟨h27,.inr ⟨h2,.inl h128⟩⟩)⟩
theorem A2d{l r:List Int}{i:Nat}(h:i<l.length):(l++r).getD i 0=l.getD i 0:=by
 simp[B4,D8 h]
theorem C81{l:List Int}{b:Int}(hl:(l.length:Int)≤1012)(hb:By l)(h2:6≤(l.length:Int)+1)(h27:l.getD 0 0=27)(h128:l.getD 1 0<128)(h0:0≤b)(h1:b<256):Iv (psP (some (l++[b]))):=by
 have hb2:=A3A hb h0 h1;have e0:(l++[b]).getD 0 0=27:=by rw[A2d (by omega)];exact h27
 have e1:(l++[b]).getD 1 0<128:=by rw[A2d (by omega)];exact h128
 have hlen:((l++[b]).length:Int)=l.length+1:=by simp
 have ht:((el (psT (some (l++[b])))).length:Int)=(l.length:Int)+1-6:=by
  unfold psT;rw[P5,F2,D3];simp only[I1];omega
 unfold psP;split
 ·exact o9
 ·split
  ·rename_i h3;rw[ht]at h3;have hl2:l.length=1012:=by omega
   have ex:∃ s,Q2 (some (l++[b])) (1008:Int).toNat ((el (some (l++[b]))).length:Int).toNat=s:=⟨_,rfl⟩;obtain⟨s,hs⟩:=ex;have hse:el s=((l++[b]).drop 1008):=by
    rw[← hs,P5];show(((l++[b]).drop 1008).take _)=_;exact W9 (by simp only[D3,I1];omega)
   rw[hs];have hf:el (Q2 (some (l++[b])) (0:Int).toNat (1006:Int).toNat)=(l++[b]).take 1006:=by rw[P5];rfl
   rw[hf];have hcat:el (A6S (some ((l++[b]).take 1006++[0])) s)=(l++[b]).take 1006++[0]++(l++[b]).drop 1008:=by rw[C3B,hse,I1]
   have hsome:∃ z,A6S (some ((l++[b]).take 1006++[0])) s=some z∧z=(l++[b]).take 1006++[0]++(l++[b]).drop 1008:=by
    cases hq:A6S (some ((l++[b]).take 1006++[0])) s with
    | none=>rw[hq]at hcat;have:=congrArg List.length hcat;simp[el]at this
    | some z=>exact⟨z,rfl,by rw[hq]at hcat;exact hcat⟩
   obtain⟨z,hz,rfl⟩:=hsome;rw[hz];have g:∀ i:Nat,i<1006→((l++[b]).take 1006++[0]++(l++[b]).drop 1008).getD i 0=(l++[b]).getD i 0:=fun i hi=>by
    rw[U5,A2d (by rw[F2];omega)];simp[B4,List.getElem?_take,hi]
   refine A9A ?_ ?_ ?_ ?_ ?_
   ·simp only[B1,F2,D3,F7];omega
   ·intro x hx;rcases B0.1 hx with hx|hx
    ·rcases B0.1 hx with hx|hx
     ·exact hb2 x (N4 hx)
     ·have:x=0:=by simpa using hx
      omega
    ·exact hb2 x (J8 hx)
   ·simp only[B1,F2,D3,F7];omega
   ·rw[g 0 (by decide)];exact e0
   ·rw[g 1 (by decide)];exact e1
  ·rename_i h3;rw[ht]at h3;exact A9A (by omega) hb2 (by omega) e0 e1
theorem A6x(l:List Int):(iB l).length=l.length:=by unfold iB;simp
theorem C80{l:List Int}{b:Int}(hl:(l.length:Int)≤1012)(hb:By l)(h2:2≤(l.length:Int))(h27:l.getD 0 0=27)(h128:l.getD 1 0<128)(h0:0≤b)(h1:b<256):Iv (sqP (some (l++[b])) b):=by
 have hb2:=A3A hb h0 h1;have e0:(l++[b]).getD 0 0=27:=by rw[A2d (by omega)];exact h27
 have e1:(l++[b]).getD 1 0<128:=by rw[A2d (by omega)];exact h128
 have hlen:((iB (l++[b])).length:Int)=l.length+1:=by rw[A6x];simp
 have hw:((iB (l++[b])).length:Int)≤24→Iv (some (l++[b])):=fun h=>A9A (by rw[A6x]at h;omega) hb2 (by rw[A6x]at hlen;omega) e0 e1
 have hn:Iv (none:Option (List Int)):=o9;have hf:Iv (fsP [] none b):=B00 (.inl rfl) (fun x hx=>by cases hx) h0 h1;have k0:∀ k,sqC (iB (l++[b])) b=k→(k=0→6≤((iB (l++[b])).length:Int))∧(k=1→((iB (l++[b])).length:Int)≤24):=by
  intro k hk;have hC:∀ k,sqH (iB (l++[b]))=k→(k=0→False)∧(k=1→((iB (l++[b])).length:Int)≤24):=by
   intro k hk;unfold sqH at hk;split at hk<;>subst hk<;>exact⟨fun h=>(by cases h),fun h=>by first|(cases h;done)|omega⟩
  have hG:∀ k,sqG (iB (l++[b])) b=k→(k=0→False)∧(k=1→((iB (l++[b])).length:Int)≤24):=by
   intro k hk;unfold sqG at hk;split at hk
   ·split at hk
    ·exact hC k hk
    ·subst hk;exact⟨fun h=>(by cases h),fun h=>by cases h⟩
   ·subst hk;exact⟨fun h=>(by cases h),fun h=>by cases h⟩
  have hF:∀ k,sqF (iB (l++[b])) b=k→(k=0→False)∧(k=1→((iB (l++[b])).length:Int)≤24):=by
   intro k hk;unfold sqF at hk;split at hk
   ·subst hk;exact⟨fun h=>(by cases h),fun h=>by cases h⟩
   ·split at hk
    ·split at hk
     ·subst hk;exact⟨fun h=>(by cases h),fun h=>by cases h⟩
     ·exact hG k hk
    ·exact hG k hk
  have hE:∀ k,sqE (iB (l++[b])) b=k→(k=0→False)∧(k=1→((iB (l++[b])).length:Int)≤24):=by
   intro k hk;unfold sqE at hk;split at hk
   ·rename_i h;subst hk;exact⟨fun h=>(by cases h),fun _=>by rw[h];decide⟩
   ·exact hF k hk
  have hD:∀ k,sqD (iB (l++[b])) b=k→(k=0→False)∧(k=1→((iB (l++[b])).length:Int)≤24):=by
   intro k hk;unfold sqD at hk;split at hk
   ·split at hk
    ·subst hk;exact⟨fun h=>(by cases h),fun _=>by omega⟩
    ·exact hE k hk
   ·exact hE k hk
  unfold sqC at hk;split at hk
  ·rename_i hp;split at hk
   ·subst hk;exact⟨fun _=>by have:=B5R hp;simp only[B9,E3]at this;omega,fun h=>by cases h⟩
   ·exact⟨fun h=>((hD k hk).1 h).elim,(hD k hk).2⟩
  ·exact⟨fun h=>((hD k hk).1 h).elim,(hD k hk).2⟩
 unfold sqP;show Iv (match sqC (iB (l++[b])) b with|0=>psP (some (l++[b]))|1=>some (l++[b])|2=>none|3=>fsP [] none b|_=>none)
 match h:sqC (iB (l++[b])) b with
 | 0=>exact C81 hl hb (by have:=(k0 0 h).1 rfl;omega) h27 h128 h0 h1
 | 1=>exact hw ((k0 1 h).2 rfl)
 | 2=>exact hn
 | 3=>exact hf
 | k+4=>exact hn
theorem C9C{l:List Int}(hb:By l)(h:iB l=[27]):l=[27]:=by
 match l,hb,h with
 | [],_,h=>cases h
 | [a],hb,h =>
   have h:[UInt8.ofNat a.toNat]=[27]:=h;have h:=(List.cons.inj h).1;have ha:=hb a (by simp);have h2:=congrArg UInt8.toNat h;have h3:(UInt8.ofNat a.toNat).toNat=a.toNat:=by rw[UInt8.toNat_ofNat'];exact R9 (by omega)
   rw[h3]at h2;have h4:(27:UInt8).toNat=27:=rfl;rw[h4]at h2;have:a=27:=by omega
   rw[this]
 | a::c::r,_,h=>simp[iB]at h
theorem A3P{p:Option (List Int)}{b:Int}(h:Iv p)(h0:0≤b)(h1:b<256):Iv (stP p b):=by
 obtain⟨hl,hb,hf⟩:=h;have hn:Iv (fsP [] none b):=B00 (.inl rfl) (fun x hx=>by cases hx) h0 h1;unfold stP;split
 ·exact B00 (.inl rfl) hb h0 h1
 ·split
  ·exact B00 (.inl rfl) hb h0 h1
  ·rename_i hz hlo;have h27:(el p).getD 0 0=27∧(((el p).length:Int)=1∨(2≤((el p).length:Int)∧((el p).getD 1 0<128∨knd ((el p).drop 1)=1))):=by
    rcases hf with hf|hf|hf
    ·rw[hf]at hz;exact absurd rfl hz
    ·exact absurd (B0w (fun e=>hz (by rw[e];rfl)) hf) hlo
    ·exact hf
   split
   ·rename_i hne;have h2:2≤((el p).length:Int):=by
     rcases h27.2 with h|h
     ·exfalso;have:el p=[27]:=by
       match hq:el p with
       | []=>rw[hq]at h;cases h
       | [a]=>rw[hq]at h27;have:=h27.1;simp at this;rw[this]
       | a::c::r=>rw[hq]at h;simp at h;omega
      exact hne (by rw[this];rfl)
     ·exact h.1
    split
    ·exact B00 (.inr rfl) (fun x hx=>by rw[P5]at hx;exact hb x (J8 (N4 hx))) h0 h1
    ·rename_i h128;split
     ·split
      ·split
       ·exact o9
       ·exact hn
      ·exact hn
     ·exact C80 hl hb h2 h27.1 (by omega) h0 h1
   ·rename_i he;have he:=C9C hb (C6.1 he);split
    ·exact⟨hl,hb,hf⟩
    ·split
     ·rename_i e;rw[he,e];exact A9A (by decide) (A3A (C3P (by decide) (by decide)) (by decide) (by decide)) (by decide) rfl (by decide)
     ·split
      ·rename_i e;rw[he,e];exact A9A (by decide) (A3A (C3P (by decide) (by decide)) (by decide) (by decide)) (by decide) rfl (by decide)
      ·exact B00 (.inr rfl) (fun x hx=>by cases hx) h0 h1
theorem A9k:∀ (l:List Int) (m:Int) (x:Option (List Xt)),((el (cI l m x)).length:Int)≤(el x).length+l.length
 | [],_,x=>by show((el x).length:Int)≤_;simp
 | c::r,m,x=>by
   have e:∀ y:Xt,((el (some (el x++[y]))).length:Int)=(el x).length+1:=fun y=>by rw[I1];simp
   unfold cI;split
   ·split
    ·have:=A9k r 0 x;simp only[B9];omega
    ·have:=A9k r 0 (some (el x++[ipK (plC c) (plM c)]));rw[e]at this;simp only[B9];omega
   ·split
    ·have:=A9k r 0 (some (el x++[ipK c m]));rw[e]at this;simp only[B9];omega
    ·have:=A9k r 0 x;simp only[B9];omega
theorem A26{f:List UInt8}{q:Option (List Int)}{b:Int}{x:Option (List Xt)}:((el (fsI f q b x)).length:Int)≤(el x).length+2:=by
 unfold fsI;split
 ·omega
 ·split
  ·rw[I1];simp<;>omega
  ·have:=A9k (el (utC (el q) b)) ((f.length:Int)*2) x
   have:=B5t (l:=el q) (b:=b);omega
theorem B6w{s:List UInt8}{mp:Option (List Qt)}{x:Option (List Xt)}:((el (cmI s mp x)).length:Int)≤(el x).length+2:=by
 unfold cmI;split
 ·rw[I1];simp<;>omega
 ·omega
theorem C2K{a:Option (List Int)}{x:Option (List Xt)}:((el (psI a x)).length:Int)≤(el x).length+2:=by
 unfold psI;split
 ·rw[I1];simp<;>omega
 ·omega
theorem C19{a:Option (List Int)}{b:Int}{mp:Option (List Qt)}{x:Option (List Xt)}:((el (sqI a b mp x)).length:Int)≤(el x).length+2:=by
 unfold sqI;split
 ·exact C2K
 ·omega
 ·exact B6w
 ·exact A26
 ·omega
theorem u7{p:Option (List Int)}{b:Int}{mp:Option (List Qt)}{x:Option (List Xt)}:((el (stI p b mp x)).length:Int)≤(el x).length+2:=by
 unfold stI;split
 ·exact A26
 ·split
  ·exact A26
  ·split
   ·split
    ·exact A26
    ·split
     ·split
      ·split
       ·exact B6w
       ·exact A26
      ·exact A26
     ·exact C19
   ·split
    ·rw[I1,B1,F7];omega
    ·split
     ·omega
     ·split
      ·omega
      ·exact A26
end Go.Proofs.YtdimocjaepnifaaGreatDoor
