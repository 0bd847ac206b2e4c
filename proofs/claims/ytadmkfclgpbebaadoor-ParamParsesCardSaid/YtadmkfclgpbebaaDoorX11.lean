/- The law ParamParses: for every input the call returns true, and the arguments read behind it as they read before. No condition. -/
import Derived.Test.YtadmkfclgpbebaaDoorX10
namespace Go.Proofs.YtadmkfclgpbebaaDoor
set_option linter.all false
open Go Go.Sx
set_option maxRecDepth 100000
set_option linter.unusedVariables false
set_option linter.unusedSimpArgs false
set_option maxHeartbeats 20000000
abbrev E1 (p:Option (List Int)):Option (List Int):=some (el p)
def rstS (l:Rws) (c:Int):Rws × Int:=if (stepS l c).2≠0 then (none,(stepS l c).2) else (some ((el (stepS l c).1).map E1),0)
theorem cat_nil (x:Option (List Int)):catS (some []) x=some (el x):=by
 cases x with
 | none=>rfl
 | some l=>cases l <;> rfl
theorem list_lit {α:Type} [Inhabited α] (l:List α):l=(List.range l.length).map fun i=>l.getD i default:=by
 apply List.ext_getElem?
 intro i
 rw [List.getElem?_map]
 rcases Nat.lt_or_ge i l.length with h|h
 ·rw [List.getElem?_range h,List.getElem?_eq_getElem h]
  simp [List.getD_eq_getElem?_getD,List.getElem?_eq_getElem h]
 ·rw [List.getElem?_eq_none h,List.getElem?_eq_none (by simpa using h)]; rfl
theorem map_lit (l:Rws) (n:Nat) (h:((el l).length:Int)=n):(el l).map E1=(List.range n).map fun i=>E1 ((el l).getD i default):=by
 have e:(el l).length=n:=by omega
 conv=>lhs; rw [list_lit (el l)]
 rw [List.map_map,e]; rfl
theorem rst_of {l:Rws} {c:Int} {x:Rws} (h:stepS l c=(x,0)):rstS l c=(some ((el x).map E1),0):=by
 unfold rstS
 rw [h]; exact if_neg (fun h=>h rfl)
theorem rst_er {l:Rws} {c e:Int} {x:Rws} (h:stepS l c=(x,e)) (he:e≠0):rstS l c=(none,e):=by
 unfold rstS
 rw [h]; exact if_pos he
theorem rst_bad (l:Rws) (c:Int) (h:checkS l≠0):rstS l c=(none,150):=by
 rw [rst_er (step_0 l c h) h]
 rcases check_bd l with h1|⟨h1,_⟩
 ·rw [h1]
 ·exact absurd h1 h
theorem rst_form (l:Rws) (c:Int) (h:checkS l=0) (h1:c < 48∨59 < c):rstS l c=(none,6):=rst_er (step_4 l c h h1) (by decide)
theorem rst_s0 (l:Rws) (c:Int) (h:checkS l=0) (h0:((el l).length:Int)=0) (hc:c=59):rstS l c=(some [some [-1],some [-1]],0):=rst_of (step_1 l c h h0 hc)
theorem rst_c0 (l:Rws) (c:Int) (h:checkS l=0) (h0:((el l).length:Int)=0) (hc:c=58):rstS l c=(some [some [-1,-1]],0):=rst_of (step_2 l c h h0 hc)
theorem rst_d0 (l:Rws) (c:Int) (h:checkS l=0) (h0:((el l).length:Int)=0) (hc:48≤c∧c≤57):rstS l c=(some [some [min 9999 (0+(c - 48))]],0):=by
 rw [rst_of (step_3 l c h h0 hc)]
 have:digV (-1) c=min 9999 (0+(c - 48)):=by unfold digV; omega
 rw [this]; rfl
theorem rst_s16 (l:Rws) (c:Int) (h:checkS l=0) (h0:((el l).length:Int)=16) (hc:c=59):rstS l c=(none,3):=rst_er (step_7 l c h (by omega) (by omega)) (by decide)
theorem all_eq {α:Type} (l:Option (List α)):allL l=el l:=by
 show el (subS l 0 ((el l).length:Int).toNat)=_
 rw [el_subS,Int.toNat_natCast,Nat.sub_zero,List.drop_zero,List.take_length]
theorem rst_s (l:Rws) (c:Int) (n:Nat) (h:checkS l=0) (h0:((el l).length:Int)=n∧0 < n∧n < 16) (hc:c=59):rstS l c=(some (((List.range n).map fun i=>E1 ((el l).getD i default))++[some [-1]]),0):=by
 rw [rst_of (step_5 l c h (by omega) hc (by omega)),all_eq,el_some,List.map_append,map_lit l n h0.1]; rfl
theorem cut_map (l:Rws) (n:Nat) (h:((el l).length:Int)=n+1):(cutL l).map E1=(List.range n).map fun i=>E1 ((el l).getD i default):=by
 have e:cutL l=(el l).take n:=by
  show el (subS l 0 (((el l).length:Int) - 1).toNat)=_
  rw [el_subS,List.drop_zero,Nat.sub_zero,show (((el l).length:Int) - 1).toNat=n by omega]
 rw [e,List.map_take,map_lit l (n+1) (by omega),← List.map_take,List.take_range,show min n (n+1)=n by omega]
theorem last_p (l:Rws) (n:Nat) (h:((el l).length:Int)=n+1):lastP l=(el l).getD n default:=by
 show (el l).getD (((el l).length:Int) - 1).toNat default=_
 rw [show (((el l).length:Int) - 1).toNat=n by omega]
theorem rst_c6 (l:Rws) (c:Int) (h:checkS l=0) (hc:c=58) (n:Nat) (h0:((el l).length:Int)=n+1) (h6:((el ((el l).getD n default)).length:Int)=6):rstS l c=(none,3) :=
 rst_er (step_7 l c h (by omega) (.inr ⟨hc,by show ¬((el (lastP l)).length:Int) < 6; rw [last_p l n h0]; omega⟩)) (by decide)
theorem rst_c (l:Rws) (c:Int) (n:Nat) (h:checkS l=0) (h0:((el l).length:Int)=n+1) (hc:c=58) (h6:((el ((el l).getD n default)).length:Int) < 6):rstS l c=(some (((List.range n).map fun i=>E1 ((el l).getD i default))++[some (el ((el l).getD n default)++[-1])]),0):=by
 rw [rst_of (step_6 l c h (by omega) hc (by show ((el (lastP l)).length:Int) < 6; rw [last_p l n h0]; exact h6)),el_some,List.map_append,cut_map l n h0,last_p l n h0,all_eq]; rfl
theorem set_last {l:List Int} {v:Int} (h:1≤l.length):l.set ((l.length:Int) - 1).toNat v=l.take ((l.length:Int) - 1).toNat++[v]:=by
 have e:((l.length:Int) - 1).toNat=l.length - 1:=by omega
 rw [e]
 apply List.ext_getElem?
 intro i
 rcases Nat.lt_trichotomy i (l.length - 1) with hi|hi|hi
 ·rw [List.getElem?_set_ne (by omega),List.getElem?_append_left (by rw [List.length_take]; omega),List.getElem?_take_of_lt hi]
 ·subst hi
  rw [List.getElem?_set_self (by omega),List.getElem?_append_right (by rw [List.length_take]; omega),List.length_take,show l.length - 1 - min (l.length - 1) l.length=0 by omega]; rfl
 ·rw [List.getElem?_eq_none (by rw [List.length_set]; omega),List.getElem?_eq_none (by rw [List.length_append,List.length_take,List.length_singleton]; omega)]
theorem rst_d (l:Rws) (c:Int) (n:Nat) (h:checkS l=0) (h0:((el l).length:Int)=n+1∧1≤(el ((el l).getD n default)).length) (hc:48≤c∧c≤57):rstS l c=(some (((List.range n).map fun i=>E1 ((el l).getD i default))++[setR (some (el ((el l).getD n default))) (((el (some (el ((el l).getD n default)))).length:Int) - 1).toNat (min 9999 (10 * max 0 ((el (some (el ((el l).getD n default)))).getD (((el (some (el ((el l).getD n default)))).length:Int) - 1).toNat default)+(c - 48)))]),0):=by
 rw [rst_of (step_8 l c h (by omega) hc),el_some,List.map_append,cut_map l n h0.1,last_p l n h0.1]
 have e:digV (lastN ((el l).getD n default)) c=min 9999 (10 * max 0 ((el ((el l).getD n default)).getD (((el ((el l).getD n default)).length:Int) - 1).toNat default)+(c - 48)):=by unfold digV lastN; omega
 rw [e]
 congr 3
 unfold setR
 rw [el_some,set_last h0.2]
 show [some (el (some (cutL _++[_])))]=_
 rw [el_some]
 have:cutL ((el l).getD n default)=(el ((el l).getD n default)).take (((el ((el l).getD n default)).length:Int) - 1).toNat:=by
  show el (subS _ 0 _)=_
  rw [el_subS,List.drop_zero,Nat.sub_zero]
 rw [this]
noncomputable def U_rstp:List (FuncId × FnC):=(27,conF Tryd.prog [.s 11] rchk_s [.s 3])::L0
theorem U_rstp_ok {G:Nat→Option Obj} (hst:StartOk Tryd.prog G gl H0 n0):ConsOk Tryd.prog G gl U_rstp:=(.cons (rchk_c hst) .nil)
def rstp_s:List U→Option (Nat × List U)
 | [u_l,.int .u8 c]=>(decS rP u_l).bind fun l=>if ((el l).length≤1000000000∧∀ p ∈ el l,(el p).length≤1000000000)∧0≤c∧c≤255 then some (0,[encS rP ((rstS l c).1),.int .i64 ((rstS l c).2)]) else none
 | _=>none
theorem rstp_s_e (l:(Option (List (Option (List Int))))) (c:Int) (hc:((el l).length≤1000000000∧∀ p ∈ el l,(el p).length≤1000000000)∧0≤c∧c≤255):rstp_s [encS rP l,.int .u8 c]=some (0,[encS rP ((rstS l c).1),.int .i64 ((rstS l c).2)]):=by
 simp only [rstp_s,decS_enc,Option.bind_some]
 exact if_pos hc
def rstp_t:Tr:=.fn rchk_s [h 0 11] 1 <| .lt 8 (.bin .neq) [h 2 3,.int .i64 (0)] <| .br 3 (.dt 11 (.nilw 1) [] <| .ret [h 4 11,.int .i64 (150)]) (.lt 8 (.bin .lss) [h 1 4,.int .u8 (48)] <| .br 4 (.lt 8 (.bin .neq) [h 1 4,.int .u8 (58)] <| .br 5 (.lt 8 (.bin .neq) [h 1 4,.int .u8 (59)] <| .br 6 (.dt 11 (.nilw 1) [] <| .ret [h 7 11,.int .i64 (6)]) (.no)) (.no)) (.lt 8 (.bin .gtr) [h 1 4,.int .u8 (57)] <| .br 5 (.lt 8 (.bin .neq) [h 1 4,.int .u8 (58)] <| .br 6 (.lt 8 (.bin .neq) [h 1 4,.int .u8 (59)] <| .br 7 (.dt 11 (.nilw 1) [] <| .ret [h 8 11,.int .i64 (6)]) (.lt 3 (.len) [h 0 11] <| .lt 8 (.bin .lss) [.int .i64 (0),h 8 3] <| .br 9 (.lt 8 (.inbs 1) [.int .i64 (0),h 0 11] <| .br 10 (.dt 11 (.get 1 0) [h 0 11,.int .i64 (0)] <| .dt 11 (.mk 1) [] <| .dt 11 (.cat 1) [h 12 11,h 11 11] <| .lt 8 (.bin .lss) [.int .i64 (1),h 8 3] <| .br 14 (.lt 8 (.inbs 1) [.int .i64 (1),h 0 11] <| .br 15 (.dt 11 (.get 1 0) [h 0 11,.int .i64 (1)] <| .dt 11 (.mk 1) [] <| .dt 11 (.cat 1) [h 17 11,h 16 11] <| .lt 8 (.bin .lss) [.int .i64 (2),h 8 3] <| .br 19 (.lt 8 (.inbs 1) [.int .i64 (2),h 0 11] <| .br 20 (.dt 11 (.get 1 0) [h 0 11,.int .i64 (2)] <| .dt 11 (.mk 1) [] <| .dt 11 (.cat 1) [h 22 11,h 21 11] <| .lt 8 (.bin .lss) [.int .i64 (3),h 8 3] <| .br 24 (.lt 8 (.inbs 1) [.int .i64 (3),h 0 11] <| .br 25 (.dt 11 (.get 1 0) [h 0 11,.int .i64 (3)] <| .dt 11 (.mk 1) [] <| .dt 11 (.cat 1) [h 27 11,h 26 11] <| .lt 8 (.bin .lss) [.int .i64 (4),h 8 3] <| .br 29 (.lt 8 (.inbs 1) [.int .i64 (4),h 0 11] <| .br 30 (.dt 11 (.get 1 0) [h 0 11,.int .i64 (4)] <| .dt 11 (.mk 1) [] <| .dt 11 (.cat 1) [h 32 11,h 31 11] <| .lt 8 (.bin .lss) [.int .i64 (5),h 8 3] <| .br 34 (.lt 8 (.inbs 1) [.int .i64 (5),h 0 11] <| .br 35 (.dt 11 (.get 1 0) [h 0 11,.int .i64 (5)] <| .dt 11 (.mk 1) [] <| .dt 11 (.cat 1) [h 37 11,h 36 11] <| .lt 8 (.bin .lss) [.int .i64 (6),h 8 3] <| .br 39 (.lt 8 (.inbs 1) [.int .i64 (6),h 0 11] <| .br 40 (.dt 11 (.get 1 0) [h 0 11,.int .i64 (6)] <| .dt 11 (.mk 1) [] <| .dt 11 (.cat 1) [h 42 11,h 41 11] <| .lt 8 (.bin .lss) [.int .i64 (7),h 8 3] <| .br 44 (.lt 8 (.inbs 1) [.int .i64 (7),h 0 11] <| .br 45 (.dt 11 (.get 1 0) [h 0 11,.int .i64 (7)] <| .dt 11 (.mk 1) [] <| .dt 11 (.cat 1) [h 47 11,h 46 11] <| .lt 8 (.bin .lss) [.int .i64 (8),h 8 3] <| .br 49 (.lt 8 (.inbs 1) [.int .i64 (8),h 0 11] <| .br 50 (.dt 11 (.get 1 0) [h 0 11,.int .i64 (8)] <| .dt 11 (.mk 1) [] <| .dt 11 (.cat 1) [h 52 11,h 51 11] <| .lt 8 (.bin .lss) [.int .i64 (9),h 8 3] <| .br 54 (.lt 8 (.inbs 1) [.int .i64 (9),h 0 11] <| .br 55 (.dt 11 (.get 1 0) [h 0 11,.int .i64 (9)] <| .dt 11 (.mk 1) [] <| .dt 11 (.cat 1) [h 57 11,h 56 11] <| .lt 8 (.bin .lss) [.int .i64 (10),h 8 3] <| .br 59 (.lt 8 (.inbs 1) [.int .i64 (10),h 0 11] <| .br 60 (.dt 11 (.get 1 0) [h 0 11,.int .i64 (10)] <| .dt 11 (.mk 1) [] <| .dt 11 (.cat 1) [h 62 11,h 61 11] <| .lt 8 (.bin .lss) [.int .i64 (11),h 8 3] <| .br 64 (.lt 8 (.inbs 1) [.int .i64 (11),h 0 11] <| .br 65 (.dt 11 (.get 1 0) [h 0 11,.int .i64 (11)] <| .dt 11 (.mk 1) [] <| .dt 11 (.cat 1) [h 67 11,h 66 11] <| .lt 8 (.bin .lss) [.int .i64 (12),h 8 3] <| .br 69 (.lt 8 (.inbs 1) [.int .i64 (12),h 0 11] <| .br 70 (.dt 11 (.get 1 0) [h 0 11,.int .i64 (12)] <| .dt 11 (.mk 1) [] <| .dt 11 (.cat 1) [h 72 11,h 71 11] <| .lt 8 (.bin .lss) [.int .i64 (13),h 8 3] <| .br 74 (.lt 8 (.inbs 1) [.int .i64 (13),h 0 11] <| .br 75 (.dt 11 (.get 1 0) [h 0 11,.int .i64 (13)] <| .dt 11 (.mk 1) [] <| .dt 11 (.cat 1) [h 77 11,h 76 11] <| .lt 8 (.bin .lss) [.int .i64 (14),h 8 3] <| .br 79 (.lt 8 (.inbs 1) [.int .i64 (14),h 0 11] <| .br 80 (.dt 11 (.get 1 0) [h 0 11,.int .i64 (14)] <| .dt 11 (.mk 1) [] <| .dt 11 (.cat 1) [h 82 11,h 81 11] <| .lt 8 (.bin .lss) [.int .i64 (15),h 8 3] <| .br 84 (.lt 8 (.inbs 1) [.int .i64 (15),h 0 11] <| .br 85 (.dt 11 (.get 1 0) [h 0 11,.int .i64 (15)] <| .dt 11 (.mk 1) [] <| .dt 11 (.cat 1) [h 87 11,h 86 11] <| .lt 8 (.bin .lss) [.int .i64 (16),h 8 3] <| .br 89 (.no) (.lt 3 (.len) [h 88 11] <| .lt 3 (.bin .sub) [h 90 3,.int .i64 (1)] <| .lt 8 (.bin .eql) [h 1 4,.int .u8 (59)] <| .br 92 (.dt 11 (.nilw 1) [] <| .ret [h 93 11,.int .i64 (3)]) (.no))) (.no)) (.lt 3 (.len) [h 83 11] <| .lt 3 (.bin .sub) [h 85 3,.int .i64 (1)] <| .lt 8 (.bin .eql) [h 1 4,.int .u8 (59)] <| .br 87 (.dt 11 (.mk 1) [.int .i64 (-1)] <| .dt 11 (.mk 1) [h 13 11,h 18 11,h 23 11,h 28 11,h 33 11,h 38 11,h 43 11,h 48 11,h 53 11,h 58 11,h 63 11,h 68 11,h 73 11,h 78 11,h 83 11,h 88 11] <| .ret [h 89 11,.int .i64 (0)]) (.no))) (.no)) (.lt 3 (.len) [h 78 11] <| .lt 3 (.bin .sub) [h 80 3,.int .i64 (1)] <| .lt 8 (.bin .eql) [h 1 4,.int .u8 (59)] <| .br 82 (.dt 11 (.mk 1) [.int .i64 (-1)] <| .dt 11 (.mk 1) [h 13 11,h 18 11,h 23 11,h 28 11,h 33 11,h 38 11,h 43 11,h 48 11,h 53 11,h 58 11,h 63 11,h 68 11,h 73 11,h 78 11,h 83 11] <| .ret [h 84 11,.int .i64 (0)]) (.no))) (.no)) (.lt 3 (.len) [h 73 11] <| .lt 3 (.bin .sub) [h 75 3,.int .i64 (1)] <| .lt 8 (.bin .eql) [h 1 4,.int .u8 (59)] <| .br 77 (.dt 11 (.mk 1) [.int .i64 (-1)] <| .dt 11 (.mk 1) [h 13 11,h 18 11,h 23 11,h 28 11,h 33 11,h 38 11,h 43 11,h 48 11,h 53 11,h 58 11,h 63 11,h 68 11,h 73 11,h 78 11] <| .ret [h 79 11,.int .i64 (0)]) (.no))) (.no)) (.lt 3 (.len) [h 68 11] <| .lt 3 (.bin .sub) [h 70 3,.int .i64 (1)] <| .lt 8 (.bin .eql) [h 1 4,.int .u8 (59)] <| .br 72 (.dt 11 (.mk 1) [.int .i64 (-1)] <| .dt 11 (.mk 1) [h 13 11,h 18 11,h 23 11,h 28 11,h 33 11,h 38 11,h 43 11,h 48 11,h 53 11,h 58 11,h 63 11,h 68 11,h 73 11] <| .ret [h 74 11,.int .i64 (0)]) (.no))) (.no)) (.lt 3 (.len) [h 63 11] <| .lt 3 (.bin .sub) [h 65 3,.int .i64 (1)] <| .lt 8 (.bin .eql) [h 1 4,.int .u8 (59)] <| .br 67 (.dt 11 (.mk 1) [.int .i64 (-1)] <| .dt 11 (.mk 1) [h 13 11,h 18 11,h 23 11,h 28 11,h 33 11,h 38 11,h 43 11,h 48 11,h 53 11,h 58 11,h 63 11,h 68 11] <| .ret [h 69 11,.int .i64 (0)]) (.no))) (.no)) (.lt 3 (.len) [h 58 11] <| .lt 3 (.bin .sub) [h 60 3,.int .i64 (1)] <| .lt 8 (.bin .eql) [h 1 4,.int .u8 (59)] <| .br 62 (.dt 11 (.mk 1) [.int .i64 (-1)] <| .dt 11 (.mk 1) [h 13 11,h 18 11,h 23 11,h 28 11,h 33 11,h 38 11,h 43 11,h 48 11,h 53 11,h 58 11,h 63 11] <| .ret [h 64 11,.int .i64 (0)]) (.no))) (.no)) (.lt 3 (.len) [h 53 11] <| .lt 3 (.bin .sub) [h 55 3,.int .i64 (1)] <| .lt 8 (.bin .eql) [h 1 4,.int .u8 (59)] <| .br 57 (.dt 11 (.mk 1) [.int .i64 (-1)] <| .dt 11 (.mk 1) [h 13 11,h 18 11,h 23 11,h 28 11,h 33 11,h 38 11,h 43 11,h 48 11,h 53 11,h 58 11] <| .ret [h 59 11,.int .i64 (0)]) (.no))) (.no)) (.lt 3 (.len) [h 48 11] <| .lt 3 (.bin .sub) [h 50 3,.int .i64 (1)] <| .lt 8 (.bin .eql) [h 1 4,.int .u8 (59)] <| .br 52 (.dt 11 (.mk 1) [.int .i64 (-1)] <| .dt 11 (.mk 1) [h 13 11,h 18 11,h 23 11,h 28 11,h 33 11,h 38 11,h 43 11,h 48 11,h 53 11] <| .ret [h 54 11,.int .i64 (0)]) (.no))) (.no)) (.lt 3 (.len) [h 43 11] <| .lt 3 (.bin .sub) [h 45 3,.int .i64 (1)] <| .lt 8 (.bin .eql) [h 1 4,.int .u8 (59)] <| .br 47 (.dt 11 (.mk 1) [.int .i64 (-1)] <| .dt 11 (.mk 1) [h 13 11,h 18 11,h 23 11,h 28 11,h 33 11,h 38 11,h 43 11,h 48 11] <| .ret [h 49 11,.int .i64 (0)]) (.no))) (.no)) (.lt 3 (.len) [h 38 11] <| .lt 3 (.bin .sub) [h 40 3,.int .i64 (1)] <| .lt 8 (.bin .eql) [h 1 4,.int .u8 (59)] <| .br 42 (.dt 11 (.mk 1) [.int .i64 (-1)] <| .dt 11 (.mk 1) [h 13 11,h 18 11,h 23 11,h 28 11,h 33 11,h 38 11,h 43 11] <| .ret [h 44 11,.int .i64 (0)]) (.no))) (.no)) (.lt 3 (.len) [h 33 11] <| .lt 3 (.bin .sub) [h 35 3,.int .i64 (1)] <| .lt 8 (.bin .eql) [h 1 4,.int .u8 (59)] <| .br 37 (.dt 11 (.mk 1) [.int .i64 (-1)] <| .dt 11 (.mk 1) [h 13 11,h 18 11,h 23 11,h 28 11,h 33 11,h 38 11] <| .ret [h 39 11,.int .i64 (0)]) (.no))) (.no)) (.lt 3 (.len) [h 28 11] <| .lt 3 (.bin .sub) [h 30 3,.int .i64 (1)] <| .lt 8 (.bin .eql) [h 1 4,.int .u8 (59)] <| .br 32 (.dt 11 (.mk 1) [.int .i64 (-1)] <| .dt 11 (.mk 1) [h 13 11,h 18 11,h 23 11,h 28 11,h 33 11] <| .ret [h 34 11,.int .i64 (0)]) (.no))) (.no)) (.lt 3 (.len) [h 23 11] <| .lt 3 (.bin .sub) [h 25 3,.int .i64 (1)] <| .lt 8 (.bin .eql) [h 1 4,.int .u8 (59)] <| .br 27 (.dt 11 (.mk 1) [.int .i64 (-1)] <| .dt 11 (.mk 1) [h 13 11,h 18 11,h 23 11,h 28 11] <| .ret [h 29 11,.int .i64 (0)]) (.no))) (.no)) (.lt 3 (.len) [h 18 11] <| .lt 3 (.bin .sub) [h 20 3,.int .i64 (1)] <| .lt 8 (.bin .eql) [h 1 4,.int .u8 (59)] <| .br 22 (.dt 11 (.mk 1) [.int .i64 (-1)] <| .dt 11 (.mk 1) [h 13 11,h 18 11,h 23 11] <| .ret [h 24 11,.int .i64 (0)]) (.no))) (.no)) (.lt 3 (.len) [h 13 11] <| .lt 3 (.bin .sub) [h 15 3,.int .i64 (1)] <| .lt 8 (.bin .eql) [h 1 4,.int .u8 (59)] <| .br 17 (.dt 11 (.mk 1) [.int .i64 (-1)] <| .dt 11 (.mk 1) [h 13 11,h 18 11] <| .ret [h 19 11,.int .i64 (0)]) (.no))) (.no)) (.lt 8 (.bin .eql) [h 1 4,.int .u8 (59)] <| .br 10 (.dt 11 (.mk 1) [.int .i64 (-1)] <| .dt 11 (.mk 1) [.int .i64 (-1)] <| .dt 11 (.mk 1) [h 11 11,h 12 11] <| .ret [h 13 11,.int .i64 (0)]) (.no)))) (.lt 3 (.len) [h 0 11] <| .lt 8 (.bin .lss) [.int .i64 (0),h 7 3] <| .br 8 (.lt 8 (.inbs 1) [.int .i64 (0),h 0 11] <| .br 9 (.dt 11 (.get 1 0) [h 0 11,.int .i64 (0)] <| .dt 11 (.mk 1) [] <| .dt 11 (.cat 1) [h 11 11,h 10 11] <| .lt 8 (.bin .lss) [.int .i64 (1),h 7 3] <| .br 13 (.lt 8 (.inbs 1) [.int .i64 (1),h 0 11] <| .br 14 (.dt 11 (.get 1 0) [h 0 11,.int .i64 (1)] <| .dt 11 (.mk 1) [] <| .dt 11 (.cat 1) [h 16 11,h 15 11] <| .lt 8 (.bin .lss) [.int .i64 (2),h 7 3] <| .br 18 (.lt 8 (.inbs 1) [.int .i64 (2),h 0 11] <| .br 19 (.dt 11 (.get 1 0) [h 0 11,.int .i64 (2)] <| .dt 11 (.mk 1) [] <| .dt 11 (.cat 1) [h 21 11,h 20 11] <| .lt 8 (.bin .lss) [.int .i64 (3),h 7 3] <| .br 23 (.lt 8 (.inbs 1) [.int .i64 (3),h 0 11] <| .br 24 (.dt 11 (.get 1 0) [h 0 11,.int .i64 (3)] <| .dt 11 (.mk 1) [] <| .dt 11 (.cat 1) [h 26 11,h 25 11] <| .lt 8 (.bin .lss) [.int .i64 (4),h 7 3] <| .br 28 (.lt 8 (.inbs 1) [.int .i64 (4),h 0 11] <| .br 29 (.dt 11 (.get 1 0) [h 0 11,.int .i64 (4)] <| .dt 11 (.mk 1) [] <| .dt 11 (.cat 1) [h 31 11,h 30 11] <| .lt 8 (.bin .lss) [.int .i64 (5),h 7 3] <| .br 33 (.lt 8 (.inbs 1) [.int .i64 (5),h 0 11] <| .br 34 (.dt 11 (.get 1 0) [h 0 11,.int .i64 (5)] <| .dt 11 (.mk 1) [] <| .dt 11 (.cat 1) [h 36 11,h 35 11] <| .lt 8 (.bin .lss) [.int .i64 (6),h 7 3] <| .br 38 (.lt 8 (.inbs 1) [.int .i64 (6),h 0 11] <| .br 39 (.dt 11 (.get 1 0) [h 0 11,.int .i64 (6)] <| .dt 11 (.mk 1) [] <| .dt 11 (.cat 1) [h 41 11,h 40 11] <| .lt 8 (.bin .lss) [.int .i64 (7),h 7 3] <| .br 43 (.lt 8 (.inbs 1) [.int .i64 (7),h 0 11] <| .br 44 (.dt 11 (.get 1 0) [h 0 11,.int .i64 (7)] <| .dt 11 (.mk 1) [] <| .dt 11 (.cat 1) [h 46 11,h 45 11] <| .lt 8 (.bin .lss) [.int .i64 (8),h 7 3] <| .br 48 (.lt 8 (.inbs 1) [.int .i64 (8),h 0 11] <| .br 49 (.dt 11 (.get 1 0) [h 0 11,.int .i64 (8)] <| .dt 11 (.mk 1) [] <| .dt 11 (.cat 1) [h 51 11,h 50 11] <| .lt 8 (.bin .lss) [.int .i64 (9),h 7 3] <| .br 53 (.lt 8 (.inbs 1) [.int .i64 (9),h 0 11] <| .br 54 (.dt 11 (.get 1 0) [h 0 11,.int .i64 (9)] <| .dt 11 (.mk 1) [] <| .dt 11 (.cat 1) [h 56 11,h 55 11] <| .lt 8 (.bin .lss) [.int .i64 (10),h 7 3] <| .br 58 (.lt 8 (.inbs 1) [.int .i64 (10),h 0 11] <| .br 59 (.dt 11 (.get 1 0) [h 0 11,.int .i64 (10)] <| .dt 11 (.mk 1) [] <| .dt 11 (.cat 1) [h 61 11,h 60 11] <| .lt 8 (.bin .lss) [.int .i64 (11),h 7 3] <| .br 63 (.lt 8 (.inbs 1) [.int .i64 (11),h 0 11] <| .br 64 (.dt 11 (.get 1 0) [h 0 11,.int .i64 (11)] <| .dt 11 (.mk 1) [] <| .dt 11 (.cat 1) [h 66 11,h 65 11] <| .lt 8 (.bin .lss) [.int .i64 (12),h 7 3] <| .br 68 (.lt 8 (.inbs 1) [.int .i64 (12),h 0 11] <| .br 69 (.dt 11 (.get 1 0) [h 0 11,.int .i64 (12)] <| .dt 11 (.mk 1) [] <| .dt 11 (.cat 1) [h 71 11,h 70 11] <| .lt 8 (.bin .lss) [.int .i64 (13),h 7 3] <| .br 73 (.lt 8 (.inbs 1) [.int .i64 (13),h 0 11] <| .br 74 (.dt 11 (.get 1 0) [h 0 11,.int .i64 (13)] <| .dt 11 (.mk 1) [] <| .dt 11 (.cat 1) [h 76 11,h 75 11] <| .lt 8 (.bin .lss) [.int .i64 (14),h 7 3] <| .br 78 (.lt 8 (.inbs 1) [.int .i64 (14),h 0 11] <| .br 79 (.dt 11 (.get 1 0) [h 0 11,.int .i64 (14)] <| .dt 11 (.mk 1) [] <| .dt 11 (.cat 1) [h 81 11,h 80 11] <| .lt 8 (.bin .lss) [.int .i64 (15),h 7 3] <| .br 83 (.lt 8 (.inbs 1) [.int .i64 (15),h 0 11] <| .br 84 (.dt 11 (.get 1 0) [h 0 11,.int .i64 (15)] <| .dt 11 (.mk 1) [] <| .dt 11 (.cat 1) [h 86 11,h 85 11] <| .lt 8 (.bin .lss) [.int .i64 (16),h 7 3] <| .br 88 (.no) (.lt 3 (.len) [h 87 11] <| .lt 3 (.bin .sub) [h 89 3,.int .i64 (1)] <| .lt 8 (.bin .eql) [h 1 4,.int .u8 (59)] <| .br 91 (.no) (.lt 8 (.bin .eql) [h 1 4,.int .u8 (58)] <| .br 92 (.lt 8 (.bin .eql) [h 89 3,.int .i64 (6)] <| .br 93 (.dt 11 (.nilw 1) [] <| .ret [h 94 11,.int .i64 (3)]) (.dt 11 (.snoc 1) [h 87 11,.int .i64 (-1)] <| .dt 11 (.mk 1) [h 12 11,h 17 11,h 22 11,h 27 11,h 32 11,h 37 11,h 42 11,h 47 11,h 52 11,h 57 11,h 62 11,h 67 11,h 72 11,h 77 11,h 82 11,h 94 11] <| .ret [h 95 11,.int .i64 (0)])) (.no)))) (.no)) (.lt 3 (.len) [h 82 11] <| .lt 3 (.bin .sub) [h 84 3,.int .i64 (1)] <| .lt 8 (.bin .eql) [h 1 4,.int .u8 (59)] <| .br 86 (.no) (.lt 8 (.bin .eql) [h 1 4,.int .u8 (58)] <| .br 87 (.lt 8 (.bin .eql) [h 84 3,.int .i64 (6)] <| .br 88 (.dt 11 (.nilw 1) [] <| .ret [h 89 11,.int .i64 (3)]) (.dt 11 (.snoc 1) [h 82 11,.int .i64 (-1)] <| .dt 11 (.mk 1) [h 12 11,h 17 11,h 22 11,h 27 11,h 32 11,h 37 11,h 42 11,h 47 11,h 52 11,h 57 11,h 62 11,h 67 11,h 72 11,h 77 11,h 89 11] <| .ret [h 90 11,.int .i64 (0)])) (.no)))) (.no)) (.lt 3 (.len) [h 77 11] <| .lt 3 (.bin .sub) [h 79 3,.int .i64 (1)] <| .lt 8 (.bin .eql) [h 1 4,.int .u8 (59)] <| .br 81 (.no) (.lt 8 (.bin .eql) [h 1 4,.int .u8 (58)] <| .br 82 (.lt 8 (.bin .eql) [h 79 3,.int .i64 (6)] <| .br 83 (.dt 11 (.nilw 1) [] <| .ret [h 84 11,.int .i64 (3)]) (.dt 11 (.snoc 1) [h 77 11,.int .i64 (-1)] <| .dt 11 (.mk 1) [h 12 11,h 17 11,h 22 11,h 27 11,h 32 11,h 37 11,h 42 11,h 47 11,h 52 11,h 57 11,h 62 11,h 67 11,h 72 11,h 84 11] <| .ret [h 85 11,.int .i64 (0)])) (.no)))) (.no)) (.lt 3 (.len) [h 72 11] <| .lt 3 (.bin .sub) [h 74 3,.int .i64 (1)] <| .lt 8 (.bin .eql) [h 1 4,.int .u8 (59)] <| .br 76 (.no) (.lt 8 (.bin .eql) [h 1 4,.int .u8 (58)] <| .br 77 (.lt 8 (.bin .eql) [h 74 3,.int .i64 (6)] <| .br 78 (.dt 11 (.nilw 1) [] <| .ret [h 79 11,.int .i64 (3)]) (.dt 11 (.snoc 1) [h 72 11,.int .i64 (-1)] <| .dt 11 (.mk 1) [h 12 11,h 17 11,h 22 11,h 27 11,h 32 11,h 37 11,h 42 11,h 47 11,h 52 11,h 57 11,h 62 11,h 67 11,h 79 11] <| .ret [h 80 11,.int .i64 (0)])) (.no)))) (.no)) (.lt 3 (.len) [h 67 11] <| .lt 3 (.bin .sub) [h 69 3,.int .i64 (1)] <| .lt 8 (.bin .eql) [h 1 4,.int .u8 (59)] <| .br 71 (.no) (.lt 8 (.bin .eql) [h 1 4,.int .u8 (58)] <| .br 72 (.lt 8 (.bin .eql) [h 69 3,.int .i64 (6)] <| .br 73 (.dt 11 (.nilw 1) [] <| .ret [h 74 11,.int .i64 (3)]) (.dt 11 (.snoc 1) [h 67 11,.int .i64 (-1)] <| .dt 11 (.mk 1) [h 12 11,h 17 11,h 22 11,h 27 11,h 32 11,h 37 11,h 42 11,h 47 11,h 52 11,h 57 11,h 62 11,h 74 11] <| .ret [h 75 11,.int .i64 (0)])) (.no)))) (.no)) (.lt 3 (.len) [h 62 11] <| .lt 3 (.bin .sub) [h 64 3,.int .i64 (1)] <| .lt 8 (.bin .eql) [h 1 4,.int .u8 (59)] <| .br 66 (.no) (.lt 8 (.bin .eql) [h 1 4,.int .u8 (58)] <| .br 67 (.lt 8 (.bin .eql) [h 64 3,.int .i64 (6)] <| .br 68 (.dt 11 (.nilw 1) [] <| .ret [h 69 11,.int .i64 (3)]) (.dt 11 (.snoc 1) [h 62 11,.int .i64 (-1)] <| .dt 11 (.mk 1) [h 12 11,h 17 11,h 22 11,h 27 11,h 32 11,h 37 11,h 42 11,h 47 11,h 52 11,h 57 11,h 69 11] <| .ret [h 70 11,.int .i64 (0)])) (.no)))) (.no)) (.lt 3 (.len) [h 57 11] <| .lt 3 (.bin .sub) [h 59 3,.int .i64 (1)] <| .lt 8 (.bin .eql) [h 1 4,.int .u8 (59)] <| .br 61 (.no) (.lt 8 (.bin .eql) [h 1 4,.int .u8 (58)] <| .br 62 (.lt 8 (.bin .eql) [h 59 3,.int .i64 (6)] <| .br 63 (.dt 11 (.nilw 1) [] <| .ret [h 64 11,.int .i64 (3)]) (.dt 11 (.snoc 1) [h 57 11,.int .i64 (-1)] <| .dt 11 (.mk 1) [h 12 11,h 17 11,h 22 11,h 27 11,h 32 11,h 37 11,h 42 11,h 47 11,h 52 11,h 64 11] <| .ret [h 65 11,.int .i64 (0)])) (.no)))) (.no)) (.lt 3 (.len) [h 52 11] <| .lt 3 (.bin .sub) [h 54 3,.int .i64 (1)] <| .lt 8 (.bin .eql) [h 1 4,.int .u8 (59)] <| .br 56 (.no) (.lt 8 (.bin .eql) [h 1 4,.int .u8 (58)] <| .br 57 (.lt 8 (.bin .eql) [h 54 3,.int .i64 (6)] <| .br 58 (.dt 11 (.nilw 1) [] <| .ret [h 59 11,.int .i64 (3)]) (.dt 11 (.snoc 1) [h 52 11,.int .i64 (-1)] <| .dt 11 (.mk 1) [h 12 11,h 17 11,h 22 11,h 27 11,h 32 11,h 37 11,h 42 11,h 47 11,h 59 11] <| .ret [h 60 11,.int .i64 (0)])) (.no)))) (.no)) (.lt 3 (.len) [h 47 11] <| .lt 3 (.bin .sub) [h 49 3,.int .i64 (1)] <| .lt 8 (.bin .eql) [h 1 4,.int .u8 (59)] <| .br 51 (.no) (.lt 8 (.bin .eql) [h 1 4,.int .u8 (58)] <| .br 52 (.lt 8 (.bin .eql) [h 49 3,.int .i64 (6)] <| .br 53 (.dt 11 (.nilw 1) [] <| .ret [h 54 11,.int .i64 (3)]) (.dt 11 (.snoc 1) [h 47 11,.int .i64 (-1)] <| .dt 11 (.mk 1) [h 12 11,h 17 11,h 22 11,h 27 11,h 32 11,h 37 11,h 42 11,h 54 11] <| .ret [h 55 11,.int .i64 (0)])) (.no)))) (.no)) (.lt 3 (.len) [h 42 11] <| .lt 3 (.bin .sub) [h 44 3,.int .i64 (1)] <| .lt 8 (.bin .eql) [h 1 4,.int .u8 (59)] <| .br 46 (.no) (.lt 8 (.bin .eql) [h 1 4,.int .u8 (58)] <| .br 47 (.lt 8 (.bin .eql) [h 44 3,.int .i64 (6)] <| .br 48 (.dt 11 (.nilw 1) [] <| .ret [h 49 11,.int .i64 (3)]) (.dt 11 (.snoc 1) [h 42 11,.int .i64 (-1)] <| .dt 11 (.mk 1) [h 12 11,h 17 11,h 22 11,h 27 11,h 32 11,h 37 11,h 49 11] <| .ret [h 50 11,.int .i64 (0)])) (.no)))) (.no)) (.lt 3 (.len) [h 37 11] <| .lt 3 (.bin .sub) [h 39 3,.int .i64 (1)] <| .lt 8 (.bin .eql) [h 1 4,.int .u8 (59)] <| .br 41 (.no) (.lt 8 (.bin .eql) [h 1 4,.int .u8 (58)] <| .br 42 (.lt 8 (.bin .eql) [h 39 3,.int .i64 (6)] <| .br 43 (.dt 11 (.nilw 1) [] <| .ret [h 44 11,.int .i64 (3)]) (.dt 11 (.snoc 1) [h 37 11,.int .i64 (-1)] <| .dt 11 (.mk 1) [h 12 11,h 17 11,h 22 11,h 27 11,h 32 11,h 44 11] <| .ret [h 45 11,.int .i64 (0)])) (.no)))) (.no)) (.lt 3 (.len) [h 32 11] <| .lt 3 (.bin .sub) [h 34 3,.int .i64 (1)] <| .lt 8 (.bin .eql) [h 1 4,.int .u8 (59)] <| .br 36 (.no) (.lt 8 (.bin .eql) [h 1 4,.int .u8 (58)] <| .br 37 (.lt 8 (.bin .eql) [h 34 3,.int .i64 (6)] <| .br 38 (.dt 11 (.nilw 1) [] <| .ret [h 39 11,.int .i64 (3)]) (.dt 11 (.snoc 1) [h 32 11,.int .i64 (-1)] <| .dt 11 (.mk 1) [h 12 11,h 17 11,h 22 11,h 27 11,h 39 11] <| .ret [h 40 11,.int .i64 (0)])) (.no)))) (.no)) (.lt 3 (.len) [h 27 11] <| .lt 3 (.bin .sub) [h 29 3,.int .i64 (1)] <| .lt 8 (.bin .eql) [h 1 4,.int .u8 (59)] <| .br 31 (.no) (.lt 8 (.bin .eql) [h 1 4,.int .u8 (58)] <| .br 32 (.lt 8 (.bin .eql) [h 29 3,.int .i64 (6)] <| .br 33 (.dt 11 (.nilw 1) [] <| .ret [h 34 11,.int .i64 (3)]) (.dt 11 (.snoc 1) [h 27 11,.int .i64 (-1)] <| .dt 11 (.mk 1) [h 12 11,h 17 11,h 22 11,h 34 11] <| .ret [h 35 11,.int .i64 (0)])) (.no)))) (.no)) (.lt 3 (.len) [h 22 11] <| .lt 3 (.bin .sub) [h 24 3,.int .i64 (1)] <| .lt 8 (.bin .eql) [h 1 4,.int .u8 (59)] <| .br 26 (.no) (.lt 8 (.bin .eql) [h 1 4,.int .u8 (58)] <| .br 27 (.lt 8 (.bin .eql) [h 24 3,.int .i64 (6)] <| .br 28 (.dt 11 (.nilw 1) [] <| .ret [h 29 11,.int .i64 (3)]) (.dt 11 (.snoc 1) [h 22 11,.int .i64 (-1)] <| .dt 11 (.mk 1) [h 12 11,h 17 11,h 29 11] <| .ret [h 30 11,.int .i64 (0)])) (.no)))) (.no)) (.lt 3 (.len) [h 17 11] <| .lt 3 (.bin .sub) [h 19 3,.int .i64 (1)] <| .lt 8 (.bin .eql) [h 1 4,.int .u8 (59)] <| .br 21 (.no) (.lt 8 (.bin .eql) [h 1 4,.int .u8 (58)] <| .br 22 (.lt 8 (.bin .eql) [h 19 3,.int .i64 (6)] <| .br 23 (.dt 11 (.nilw 1) [] <| .ret [h 24 11,.int .i64 (3)]) (.dt 11 (.snoc 1) [h 17 11,.int .i64 (-1)] <| .dt 11 (.mk 1) [h 12 11,h 24 11] <| .ret [h 25 11,.int .i64 (0)])) (.no)))) (.no)) (.lt 3 (.len) [h 12 11] <| .lt 3 (.bin .sub) [h 14 3,.int .i64 (1)] <| .lt 8 (.bin .eql) [h 1 4,.int .u8 (59)] <| .br 16 (.no) (.lt 8 (.bin .eql) [h 1 4,.int .u8 (58)] <| .br 17 (.lt 8 (.bin .eql) [h 14 3,.int .i64 (6)] <| .br 18 (.dt 11 (.nilw 1) [] <| .ret [h 19 11,.int .i64 (3)]) (.dt 11 (.snoc 1) [h 12 11,.int .i64 (-1)] <| .dt 11 (.mk 1) [h 19 11] <| .ret [h 20 11,.int .i64 (0)])) (.no)))) (.no)) (.lt 8 (.bin .eql) [h 1 4,.int .u8 (59)] <| .br 9 (.no) (.lt 8 (.bin .eql) [h 1 4,.int .u8 (58)] <| .br 10 (.dt 11 (.mk 1) [.int .i64 (-1),.int .i64 (-1)] <| .dt 11 (.mk 1) [h 11 11] <| .ret [h 12 11,.int .i64 (0)]) (.no))))) (.lt 3 (.len) [h 0 11] <| .lt 8 (.bin .lss) [.int .i64 (0),h 6 3] <| .br 7 (.lt 8 (.inbs 1) [.int .i64 (0),h 0 11] <| .br 8 (.dt 11 (.get 1 0) [h 0 11,.int .i64 (0)] <| .dt 11 (.mk 1) [] <| .dt 11 (.cat 1) [h 10 11,h 9 11] <| .lt 8 (.bin .lss) [.int .i64 (1),h 6 3] <| .br 12 (.lt 8 (.inbs 1) [.int .i64 (1),h 0 11] <| .br 13 (.dt 11 (.get 1 0) [h 0 11,.int .i64 (1)] <| .dt 11 (.mk 1) [] <| .dt 11 (.cat 1) [h 15 11,h 14 11] <| .lt 8 (.bin .lss) [.int .i64 (2),h 6 3] <| .br 17 (.lt 8 (.inbs 1) [.int .i64 (2),h 0 11] <| .br 18 (.dt 11 (.get 1 0) [h 0 11,.int .i64 (2)] <| .dt 11 (.mk 1) [] <| .dt 11 (.cat 1) [h 20 11,h 19 11] <| .lt 8 (.bin .lss) [.int .i64 (3),h 6 3] <| .br 22 (.lt 8 (.inbs 1) [.int .i64 (3),h 0 11] <| .br 23 (.dt 11 (.get 1 0) [h 0 11,.int .i64 (3)] <| .dt 11 (.mk 1) [] <| .dt 11 (.cat 1) [h 25 11,h 24 11] <| .lt 8 (.bin .lss) [.int .i64 (4),h 6 3] <| .br 27 (.lt 8 (.inbs 1) [.int .i64 (4),h 0 11] <| .br 28 (.dt 11 (.get 1 0) [h 0 11,.int .i64 (4)] <| .dt 11 (.mk 1) [] <| .dt 11 (.cat 1) [h 30 11,h 29 11] <| .lt 8 (.bin .lss) [.int .i64 (5),h 6 3] <| .br 32 (.lt 8 (.inbs 1) [.int .i64 (5),h 0 11] <| .br 33 (.dt 11 (.get 1 0) [h 0 11,.int .i64 (5)] <| .dt 11 (.mk 1) [] <| .dt 11 (.cat 1) [h 35 11,h 34 11] <| .lt 8 (.bin .lss) [.int .i64 (6),h 6 3] <| .br 37 (.lt 8 (.inbs 1) [.int .i64 (6),h 0 11] <| .br 38 (.dt 11 (.get 1 0) [h 0 11,.int .i64 (6)] <| .dt 11 (.mk 1) [] <| .dt 11 (.cat 1) [h 40 11,h 39 11] <| .lt 8 (.bin .lss) [.int .i64 (7),h 6 3] <| .br 42 (.lt 8 (.inbs 1) [.int .i64 (7),h 0 11] <| .br 43 (.dt 11 (.get 1 0) [h 0 11,.int .i64 (7)] <| .dt 11 (.mk 1) [] <| .dt 11 (.cat 1) [h 45 11,h 44 11] <| .lt 8 (.bin .lss) [.int .i64 (8),h 6 3] <| .br 47 (.lt 8 (.inbs 1) [.int .i64 (8),h 0 11] <| .br 48 (.dt 11 (.get 1 0) [h 0 11,.int .i64 (8)] <| .dt 11 (.mk 1) [] <| .dt 11 (.cat 1) [h 50 11,h 49 11] <| .lt 8 (.bin .lss) [.int .i64 (9),h 6 3] <| .br 52 (.lt 8 (.inbs 1) [.int .i64 (9),h 0 11] <| .br 53 (.dt 11 (.get 1 0) [h 0 11,.int .i64 (9)] <| .dt 11 (.mk 1) [] <| .dt 11 (.cat 1) [h 55 11,h 54 11] <| .lt 8 (.bin .lss) [.int .i64 (10),h 6 3] <| .br 57 (.lt 8 (.inbs 1) [.int .i64 (10),h 0 11] <| .br 58 (.dt 11 (.get 1 0) [h 0 11,.int .i64 (10)] <| .dt 11 (.mk 1) [] <| .dt 11 (.cat 1) [h 60 11,h 59 11] <| .lt 8 (.bin .lss) [.int .i64 (11),h 6 3] <| .br 62 (.lt 8 (.inbs 1) [.int .i64 (11),h 0 11] <| .br 63 (.dt 11 (.get 1 0) [h 0 11,.int .i64 (11)] <| .dt 11 (.mk 1) [] <| .dt 11 (.cat 1) [h 65 11,h 64 11] <| .lt 8 (.bin .lss) [.int .i64 (12),h 6 3] <| .br 67 (.lt 8 (.inbs 1) [.int .i64 (12),h 0 11] <| .br 68 (.dt 11 (.get 1 0) [h 0 11,.int .i64 (12)] <| .dt 11 (.mk 1) [] <| .dt 11 (.cat 1) [h 70 11,h 69 11] <| .lt 8 (.bin .lss) [.int .i64 (13),h 6 3] <| .br 72 (.lt 8 (.inbs 1) [.int .i64 (13),h 0 11] <| .br 73 (.dt 11 (.get 1 0) [h 0 11,.int .i64 (13)] <| .dt 11 (.mk 1) [] <| .dt 11 (.cat 1) [h 75 11,h 74 11] <| .lt 8 (.bin .lss) [.int .i64 (14),h 6 3] <| .br 77 (.lt 8 (.inbs 1) [.int .i64 (14),h 0 11] <| .br 78 (.dt 11 (.get 1 0) [h 0 11,.int .i64 (14)] <| .dt 11 (.mk 1) [] <| .dt 11 (.cat 1) [h 80 11,h 79 11] <| .lt 8 (.bin .lss) [.int .i64 (15),h 6 3] <| .br 82 (.lt 8 (.inbs 1) [.int .i64 (15),h 0 11] <| .br 83 (.dt 11 (.get 1 0) [h 0 11,.int .i64 (15)] <| .dt 11 (.mk 1) [] <| .dt 11 (.cat 1) [h 85 11,h 84 11] <| .lt 8 (.bin .lss) [.int .i64 (16),h 6 3] <| .br 87 (.no) (.lt 3 (.len) [h 86 11] <| .lt 3 (.bin .sub) [h 88 3,.int .i64 (1)] <| .lt 8 (.bin .eql) [h 1 4,.int .u8 (59)] <| .br 90 (.no) (.lt 8 (.bin .eql) [h 1 4,.int .u8 (58)] <| .br 91 (.no) (.lt 8 (.inbs 1) [h 89 3,h 86 11] <| .br 92 (.lt 3 (.get 1 0) [h 86 11,h 89 3] <| .lt 3 (.max) [.int .i64 (0),h 93 3] <| .lt 3 (.bin .mul) [.int .i64 (10),h 94 3] <| .lt 4 (.bin .sub) [h 1 4,.int .u8 (48)] <| .lt 3 (.conv .i64) [h 96 4] <| .lt 3 (.bin .add) [h 95 3,h 97 3] <| .lt 3 (.min) [.int .i64 (9999),h 98 3] <| .lt 8 (.inbs 1) [h 89 3,h 86 11] <| .br 100 (.dt 11 (.set 1 0) [h 86 11,h 89 3,h 99 3] <| .dt 11 (.mk 1) [h 11 11,h 16 11,h 21 11,h 26 11,h 31 11,h 36 11,h 41 11,h 46 11,h 51 11,h 56 11,h 61 11,h 66 11,h 71 11,h 76 11,h 81 11,h 101 11] <| .ret [h 102 11,.int .i64 (0)]) (.no)) (.no))))) (.no)) (.lt 3 (.len) [h 81 11] <| .lt 3 (.bin .sub) [h 83 3,.int .i64 (1)] <| .lt 8 (.bin .eql) [h 1 4,.int .u8 (59)] <| .br 85 (.no) (.lt 8 (.bin .eql) [h 1 4,.int .u8 (58)] <| .br 86 (.no) (.lt 8 (.inbs 1) [h 84 3,h 81 11] <| .br 87 (.lt 3 (.get 1 0) [h 81 11,h 84 3] <| .lt 3 (.max) [.int .i64 (0),h 88 3] <| .lt 3 (.bin .mul) [.int .i64 (10),h 89 3] <| .lt 4 (.bin .sub) [h 1 4,.int .u8 (48)] <| .lt 3 (.conv .i64) [h 91 4] <| .lt 3 (.bin .add) [h 90 3,h 92 3] <| .lt 3 (.min) [.int .i64 (9999),h 93 3] <| .lt 8 (.inbs 1) [h 84 3,h 81 11] <| .br 95 (.dt 11 (.set 1 0) [h 81 11,h 84 3,h 94 3] <| .dt 11 (.mk 1) [h 11 11,h 16 11,h 21 11,h 26 11,h 31 11,h 36 11,h 41 11,h 46 11,h 51 11,h 56 11,h 61 11,h 66 11,h 71 11,h 76 11,h 96 11] <| .ret [h 97 11,.int .i64 (0)]) (.no)) (.no))))) (.no)) (.lt 3 (.len) [h 76 11] <| .lt 3 (.bin .sub) [h 78 3,.int .i64 (1)] <| .lt 8 (.bin .eql) [h 1 4,.int .u8 (59)] <| .br 80 (.no) (.lt 8 (.bin .eql) [h 1 4,.int .u8 (58)] <| .br 81 (.no) (.lt 8 (.inbs 1) [h 79 3,h 76 11] <| .br 82 (.lt 3 (.get 1 0) [h 76 11,h 79 3] <| .lt 3 (.max) [.int .i64 (0),h 83 3] <| .lt 3 (.bin .mul) [.int .i64 (10),h 84 3] <| .lt 4 (.bin .sub) [h 1 4,.int .u8 (48)] <| .lt 3 (.conv .i64) [h 86 4] <| .lt 3 (.bin .add) [h 85 3,h 87 3] <| .lt 3 (.min) [.int .i64 (9999),h 88 3] <| .lt 8 (.inbs 1) [h 79 3,h 76 11] <| .br 90 (.dt 11 (.set 1 0) [h 76 11,h 79 3,h 89 3] <| .dt 11 (.mk 1) [h 11 11,h 16 11,h 21 11,h 26 11,h 31 11,h 36 11,h 41 11,h 46 11,h 51 11,h 56 11,h 61 11,h 66 11,h 71 11,h 91 11] <| .ret [h 92 11,.int .i64 (0)]) (.no)) (.no))))) (.no)) (.lt 3 (.len) [h 71 11] <| .lt 3 (.bin .sub) [h 73 3,.int .i64 (1)] <| .lt 8 (.bin .eql) [h 1 4,.int .u8 (59)] <| .br 75 (.no) (.lt 8 (.bin .eql) [h 1 4,.int .u8 (58)] <| .br 76 (.no) (.lt 8 (.inbs 1) [h 74 3,h 71 11] <| .br 77 (.lt 3 (.get 1 0) [h 71 11,h 74 3] <| .lt 3 (.max) [.int .i64 (0),h 78 3] <| .lt 3 (.bin .mul) [.int .i64 (10),h 79 3] <| .lt 4 (.bin .sub) [h 1 4,.int .u8 (48)] <| .lt 3 (.conv .i64) [h 81 4] <| .lt 3 (.bin .add) [h 80 3,h 82 3] <| .lt 3 (.min) [.int .i64 (9999),h 83 3] <| .lt 8 (.inbs 1) [h 74 3,h 71 11] <| .br 85 (.dt 11 (.set 1 0) [h 71 11,h 74 3,h 84 3] <| .dt 11 (.mk 1) [h 11 11,h 16 11,h 21 11,h 26 11,h 31 11,h 36 11,h 41 11,h 46 11,h 51 11,h 56 11,h 61 11,h 66 11,h 86 11] <| .ret [h 87 11,.int .i64 (0)]) (.no)) (.no))))) (.no)) (.lt 3 (.len) [h 66 11] <| .lt 3 (.bin .sub) [h 68 3,.int .i64 (1)] <| .lt 8 (.bin .eql) [h 1 4,.int .u8 (59)] <| .br 70 (.no) (.lt 8 (.bin .eql) [h 1 4,.int .u8 (58)] <| .br 71 (.no) (.lt 8 (.inbs 1) [h 69 3,h 66 11] <| .br 72 (.lt 3 (.get 1 0) [h 66 11,h 69 3] <| .lt 3 (.max) [.int .i64 (0),h 73 3] <| .lt 3 (.bin .mul) [.int .i64 (10),h 74 3] <| .lt 4 (.bin .sub) [h 1 4,.int .u8 (48)] <| .lt 3 (.conv .i64) [h 76 4] <| .lt 3 (.bin .add) [h 75 3,h 77 3] <| .lt 3 (.min) [.int .i64 (9999),h 78 3] <| .lt 8 (.inbs 1) [h 69 3,h 66 11] <| .br 80 (.dt 11 (.set 1 0) [h 66 11,h 69 3,h 79 3] <| .dt 11 (.mk 1) [h 11 11,h 16 11,h 21 11,h 26 11,h 31 11,h 36 11,h 41 11,h 46 11,h 51 11,h 56 11,h 61 11,h 81 11] <| .ret [h 82 11,.int .i64 (0)]) (.no)) (.no))))) (.no)) (.lt 3 (.len) [h 61 11] <| .lt 3 (.bin .sub) [h 63 3,.int .i64 (1)] <| .lt 8 (.bin .eql) [h 1 4,.int .u8 (59)] <| .br 65 (.no) (.lt 8 (.bin .eql) [h 1 4,.int .u8 (58)] <| .br 66 (.no) (.lt 8 (.inbs 1) [h 64 3,h 61 11] <| .br 67 (.lt 3 (.get 1 0) [h 61 11,h 64 3] <| .lt 3 (.max) [.int .i64 (0),h 68 3] <| .lt 3 (.bin .mul) [.int .i64 (10),h 69 3] <| .lt 4 (.bin .sub) [h 1 4,.int .u8 (48)] <| .lt 3 (.conv .i64) [h 71 4] <| .lt 3 (.bin .add) [h 70 3,h 72 3] <| .lt 3 (.min) [.int .i64 (9999),h 73 3] <| .lt 8 (.inbs 1) [h 64 3,h 61 11] <| .br 75 (.dt 11 (.set 1 0) [h 61 11,h 64 3,h 74 3] <| .dt 11 (.mk 1) [h 11 11,h 16 11,h 21 11,h 26 11,h 31 11,h 36 11,h 41 11,h 46 11,h 51 11,h 56 11,h 76 11] <| .ret [h 77 11,.int .i64 (0)]) (.no)) (.no))))) (.no)) (.lt 3 (.len) [h 56 11] <| .lt 3 (.bin .sub) [h 58 3,.int .i64 (1)] <| .lt 8 (.bin .eql) [h 1 4,.int .u8 (59)] <| .br 60 (.no) (.lt 8 (.bin .eql) [h 1 4,.int .u8 (58)] <| .br 61 (.no) (.lt 8 (.inbs 1) [h 59 3,h 56 11] <| .br 62 (.lt 3 (.get 1 0) [h 56 11,h 59 3] <| .lt 3 (.max) [.int .i64 (0),h 63 3] <| .lt 3 (.bin .mul) [.int .i64 (10),h 64 3] <| .lt 4 (.bin .sub) [h 1 4,.int .u8 (48)] <| .lt 3 (.conv .i64) [h 66 4] <| .lt 3 (.bin .add) [h 65 3,h 67 3] <| .lt 3 (.min) [.int .i64 (9999),h 68 3] <| .lt 8 (.inbs 1) [h 59 3,h 56 11] <| .br 70 (.dt 11 (.set 1 0) [h 56 11,h 59 3,h 69 3] <| .dt 11 (.mk 1) [h 11 11,h 16 11,h 21 11,h 26 11,h 31 11,h 36 11,h 41 11,h 46 11,h 51 11,h 71 11] <| .ret [h 72 11,.int .i64 (0)]) (.no)) (.no))))) (.no)) (.lt 3 (.len) [h 51 11] <| .lt 3 (.bin .sub) [h 53 3,.int .i64 (1)] <| .lt 8 (.bin .eql) [h 1 4,.int .u8 (59)] <| .br 55 (.no) (.lt 8 (.bin .eql) [h 1 4,.int .u8 (58)] <| .br 56 (.no) (.lt 8 (.inbs 1) [h 54 3,h 51 11] <| .br 57 (.lt 3 (.get 1 0) [h 51 11,h 54 3] <| .lt 3 (.max) [.int .i64 (0),h 58 3] <| .lt 3 (.bin .mul) [.int .i64 (10),h 59 3] <| .lt 4 (.bin .sub) [h 1 4,.int .u8 (48)] <| .lt 3 (.conv .i64) [h 61 4] <| .lt 3 (.bin .add) [h 60 3,h 62 3] <| .lt 3 (.min) [.int .i64 (9999),h 63 3] <| .lt 8 (.inbs 1) [h 54 3,h 51 11] <| .br 65 (.dt 11 (.set 1 0) [h 51 11,h 54 3,h 64 3] <| .dt 11 (.mk 1) [h 11 11,h 16 11,h 21 11,h 26 11,h 31 11,h 36 11,h 41 11,h 46 11,h 66 11] <| .ret [h 67 11,.int .i64 (0)]) (.no)) (.no))))) (.no)) (.lt 3 (.len) [h 46 11] <| .lt 3 (.bin .sub) [h 48 3,.int .i64 (1)] <| .lt 8 (.bin .eql) [h 1 4,.int .u8 (59)] <| .br 50 (.no) (.lt 8 (.bin .eql) [h 1 4,.int .u8 (58)] <| .br 51 (.no) (.lt 8 (.inbs 1) [h 49 3,h 46 11] <| .br 52 (.lt 3 (.get 1 0) [h 46 11,h 49 3] <| .lt 3 (.max) [.int .i64 (0),h 53 3] <| .lt 3 (.bin .mul) [.int .i64 (10),h 54 3] <| .lt 4 (.bin .sub) [h 1 4,.int .u8 (48)] <| .lt 3 (.conv .i64) [h 56 4] <| .lt 3 (.bin .add) [h 55 3,h 57 3] <| .lt 3 (.min) [.int .i64 (9999),h 58 3] <| .lt 8 (.inbs 1) [h 49 3,h 46 11] <| .br 60 (.dt 11 (.set 1 0) [h 46 11,h 49 3,h 59 3] <| .dt 11 (.mk 1) [h 11 11,h 16 11,h 21 11,h 26 11,h 31 11,h 36 11,h 41 11,h 61 11] <| .ret [h 62 11,.int .i64 (0)]) (.no)) (.no))))) (.no)) (.lt 3 (.len) [h 41 11] <| .lt 3 (.bin .sub) [h 43 3,.int .i64 (1)] <| .lt 8 (.bin .eql) [h 1 4,.int .u8 (59)] <| .br 45 (.no) (.lt 8 (.bin .eql) [h 1 4,.int .u8 (58)] <| .br 46 (.no) (.lt 8 (.inbs 1) [h 44 3,h 41 11] <| .br 47 (.lt 3 (.get 1 0) [h 41 11,h 44 3] <| .lt 3 (.max) [.int .i64 (0),h 48 3] <| .lt 3 (.bin .mul) [.int .i64 (10),h 49 3] <| .lt 4 (.bin .sub) [h 1 4,.int .u8 (48)] <| .lt 3 (.conv .i64) [h 51 4] <| .lt 3 (.bin .add) [h 50 3,h 52 3] <| .lt 3 (.min) [.int .i64 (9999),h 53 3] <| .lt 8 (.inbs 1) [h 44 3,h 41 11] <| .br 55 (.dt 11 (.set 1 0) [h 41 11,h 44 3,h 54 3] <| .dt 11 (.mk 1) [h 11 11,h 16 11,h 21 11,h 26 11,h 31 11,h 36 11,h 56 11] <| .ret [h 57 11,.int .i64 (0)]) (.no)) (.no))))) (.no)) (.lt 3 (.len) [h 36 11] <| .lt 3 (.bin .sub) [h 38 3,.int .i64 (1)] <| .lt 8 (.bin .eql) [h 1 4,.int .u8 (59)] <| .br 40 (.no) (.lt 8 (.bin .eql) [h 1 4,.int .u8 (58)] <| .br 41 (.no) (.lt 8 (.inbs 1) [h 39 3,h 36 11] <| .br 42 (.lt 3 (.get 1 0) [h 36 11,h 39 3] <| .lt 3 (.max) [.int .i64 (0),h 43 3] <| .lt 3 (.bin .mul) [.int .i64 (10),h 44 3] <| .lt 4 (.bin .sub) [h 1 4,.int .u8 (48)] <| .lt 3 (.conv .i64) [h 46 4] <| .lt 3 (.bin .add) [h 45 3,h 47 3] <| .lt 3 (.min) [.int .i64 (9999),h 48 3] <| .lt 8 (.inbs 1) [h 39 3,h 36 11] <| .br 50 (.dt 11 (.set 1 0) [h 36 11,h 39 3,h 49 3] <| .dt 11 (.mk 1) [h 11 11,h 16 11,h 21 11,h 26 11,h 31 11,h 51 11] <| .ret [h 52 11,.int .i64 (0)]) (.no)) (.no))))) (.no)) (.lt 3 (.len) [h 31 11] <| .lt 3 (.bin .sub) [h 33 3,.int .i64 (1)] <| .lt 8 (.bin .eql) [h 1 4,.int .u8 (59)] <| .br 35 (.no) (.lt 8 (.bin .eql) [h 1 4,.int .u8 (58)] <| .br 36 (.no) (.lt 8 (.inbs 1) [h 34 3,h 31 11] <| .br 37 (.lt 3 (.get 1 0) [h 31 11,h 34 3] <| .lt 3 (.max) [.int .i64 (0),h 38 3] <| .lt 3 (.bin .mul) [.int .i64 (10),h 39 3] <| .lt 4 (.bin .sub) [h 1 4,.int .u8 (48)] <| .lt 3 (.conv .i64) [h 41 4] <| .lt 3 (.bin .add) [h 40 3,h 42 3] <| .lt 3 (.min) [.int .i64 (9999),h 43 3] <| .lt 8 (.inbs 1) [h 34 3,h 31 11] <| .br 45 (.dt 11 (.set 1 0) [h 31 11,h 34 3,h 44 3] <| .dt 11 (.mk 1) [h 11 11,h 16 11,h 21 11,h 26 11,h 46 11] <| .ret [h 47 11,.int .i64 (0)]) (.no)) (.no))))) (.no)) (.lt 3 (.len) [h 26 11] <| .lt 3 (.bin .sub) [h 28 3,.int .i64 (1)] <| .lt 8 (.bin .eql) [h 1 4,.int .u8 (59)] <| .br 30 (.no) (.lt 8 (.bin .eql) [h 1 4,.int .u8 (58)] <| .br 31 (.no) (.lt 8 (.inbs 1) [h 29 3,h 26 11] <| .br 32 (.lt 3 (.get 1 0) [h 26 11,h 29 3] <| .lt 3 (.max) [.int .i64 (0),h 33 3] <| .lt 3 (.bin .mul) [.int .i64 (10),h 34 3] <| .lt 4 (.bin .sub) [h 1 4,.int .u8 (48)] <| .lt 3 (.conv .i64) [h 36 4] <| .lt 3 (.bin .add) [h 35 3,h 37 3] <| .lt 3 (.min) [.int .i64 (9999),h 38 3] <| .lt 8 (.inbs 1) [h 29 3,h 26 11] <| .br 40 (.dt 11 (.set 1 0) [h 26 11,h 29 3,h 39 3] <| .dt 11 (.mk 1) [h 11 11,h 16 11,h 21 11,h 41 11] <| .ret [h 42 11,.int .i64 (0)]) (.no)) (.no))))) (.no)) (.lt 3 (.len) [h 21 11] <| .lt 3 (.bin .sub) [h 23 3,.int .i64 (1)] <| .lt 8 (.bin .eql) [h 1 4,.int .u8 (59)] <| .br 25 (.no) (.lt 8 (.bin .eql) [h 1 4,.int .u8 (58)] <| .br 26 (.no) (.lt 8 (.inbs 1) [h 24 3,h 21 11] <| .br 27 (.lt 3 (.get 1 0) [h 21 11,h 24 3] <| .lt 3 (.max) [.int .i64 (0),h 28 3] <| .lt 3 (.bin .mul) [.int .i64 (10),h 29 3] <| .lt 4 (.bin .sub) [h 1 4,.int .u8 (48)] <| .lt 3 (.conv .i64) [h 31 4] <| .lt 3 (.bin .add) [h 30 3,h 32 3] <| .lt 3 (.min) [.int .i64 (9999),h 33 3] <| .lt 8 (.inbs 1) [h 24 3,h 21 11] <| .br 35 (.dt 11 (.set 1 0) [h 21 11,h 24 3,h 34 3] <| .dt 11 (.mk 1) [h 11 11,h 16 11,h 36 11] <| .ret [h 37 11,.int .i64 (0)]) (.no)) (.no))))) (.no)) (.lt 3 (.len) [h 16 11] <| .lt 3 (.bin .sub) [h 18 3,.int .i64 (1)] <| .lt 8 (.bin .eql) [h 1 4,.int .u8 (59)] <| .br 20 (.no) (.lt 8 (.bin .eql) [h 1 4,.int .u8 (58)] <| .br 21 (.no) (.lt 8 (.inbs 1) [h 19 3,h 16 11] <| .br 22 (.lt 3 (.get 1 0) [h 16 11,h 19 3] <| .lt 3 (.max) [.int .i64 (0),h 23 3] <| .lt 3 (.bin .mul) [.int .i64 (10),h 24 3] <| .lt 4 (.bin .sub) [h 1 4,.int .u8 (48)] <| .lt 3 (.conv .i64) [h 26 4] <| .lt 3 (.bin .add) [h 25 3,h 27 3] <| .lt 3 (.min) [.int .i64 (9999),h 28 3] <| .lt 8 (.inbs 1) [h 19 3,h 16 11] <| .br 30 (.dt 11 (.set 1 0) [h 16 11,h 19 3,h 29 3] <| .dt 11 (.mk 1) [h 11 11,h 31 11] <| .ret [h 32 11,.int .i64 (0)]) (.no)) (.no))))) (.no)) (.lt 3 (.len) [h 11 11] <| .lt 3 (.bin .sub) [h 13 3,.int .i64 (1)] <| .lt 8 (.bin .eql) [h 1 4,.int .u8 (59)] <| .br 15 (.no) (.lt 8 (.bin .eql) [h 1 4,.int .u8 (58)] <| .br 16 (.no) (.lt 8 (.inbs 1) [h 14 3,h 11 11] <| .br 17 (.lt 3 (.get 1 0) [h 11 11,h 14 3] <| .lt 3 (.max) [.int .i64 (0),h 18 3] <| .lt 3 (.bin .mul) [.int .i64 (10),h 19 3] <| .lt 4 (.bin .sub) [h 1 4,.int .u8 (48)] <| .lt 3 (.conv .i64) [h 21 4] <| .lt 3 (.bin .add) [h 20 3,h 22 3] <| .lt 3 (.min) [.int .i64 (9999),h 23 3] <| .lt 8 (.inbs 1) [h 14 3,h 11 11] <| .br 25 (.dt 11 (.set 1 0) [h 11 11,h 14 3,h 24 3] <| .dt 11 (.mk 1) [h 26 11] <| .ret [h 27 11,.int .i64 (0)]) (.no)) (.no))))) (.no)) (.lt 8 (.bin .eql) [h 1 4,.int .u8 (59)] <| .br 8 (.no) (.lt 8 (.bin .eql) [h 1 4,.int .u8 (58)] <| .br 9 (.no) (.lt 4 (.bin .sub) [h 1 4,.int .u8 (48)] <| .lt 3 (.conv .i64) [h 10 4] <| .lt 3 (.bin .add) [.int .i64 (0),h 11 3] <| .lt 3 (.min) [.int .i64 (9999),h 12 3] <| .dt 11 (.mk 1) [h 13 3] <| .dt 11 (.mk 1) [h 14 11] <| .ret [h 15 11,.int .i64 (0)]))))))
theorem rstp_c {G:Nat→Option Obj} (hst:StartOk Tryd.prog G gl H0 n0):OwnOk Tryd.prog G 13 [.s 11,.s 4] rstp_s 11 47 [.s 3]:=by
 refine own_of_tree (C:=cx U_rstp []) (d:=60) rstp_t (cxg (U_rstp_ok hst) .nil) hst ⟨Tryd.f13,_,Tryd.func13,rfl⟩ (by kernel_rfl) (by kernel_rfl) ?_
 intro us outs hs
 unfold rstp_s at hs
 split at hs
 ·skip
  rename_i u_l c
  have hq_l:=Option.bind_eq_some_iff.1 hs
  clear hs
  obtain ⟨l,hd_l,hs⟩:=hq_l
  replace hd_l:=decS_eq hd_l
  subst hd_l
  split at hs
  ·rename_i hc
   cases hs
   have hb:=check_bd l
   have hf:∀ k:Int,0≤k→k < ((el l).length:Int)→checkS l=150∨((el (catS (some []) ((el l).getD k.toNat default))).length=(el ((el l).getD k.toNat default)).length∧1≤(el ((el l).getD k.toNat default)).length∧(el ((el l).getD k.toNat default)).length≤6 ∧
     -1≤(el (catS (some []) ((el l).getD k.toNat default))).getD (((el (catS (some []) ((el l).getD k.toNat default))).length:Int) - 1).toNat default∧(el (catS (some []) ((el l).getD k.toNat default))).getD (((el (catS (some []) ((el l).getD k.toNat default))).length:Int) - 1).toNat default≤9999):=fun k h1 h2=>by
    rcases hb with h|⟨_,_,h⟩
    ·exact .inl h
    ·obtain ⟨a,b,d⟩:=all_get h h1 h2
     have e:el (catS (some []) ((el l).getD k.toNat default))=el ((el l).getD k.toNat default):=by rw [cat_nil]; rfl
     rw [e]
     have:=all_get (i:=((el ((el l).getD k.toNat default)).length:Int) - 1) d (by omega) (by omega)
     exact .inr ⟨rfl,a,b,this.1,this.2⟩
   have hn0:(el (some ([]:List Int))).length=0:=rfl
   have hL:∀ k:Nat,(el ((el l).getD k default)).length≤1000000000:=fun k=>by
    rw [List.getD_eq_getElem?_getD]
    cases hk:(el l)[k]? with
    | none=>exact Nat.zero_le _
    | some p=>exact hc.1.2 p (List.mem_of_getElem? hk)
   have hbl:checkS l=150∨(el l).length≤16:=hb.imp (fun h=>h) (fun h=>h.2.1)
   unfold rstp_t
   refine s0 (.cons 1 _ (.cons 0 _ (.nil))) rfl (by simp [Ev.ok,Ev.len]) ?_
   refine s31 (rchk_s_e _ hc.1) rfl ?_
   refine s1 (ev_neq _ _ _) rfl rfl rfl ?_
   refine s4 rfl (fun g0=>?_) fun g0=>?_
   ·refine s2 (r:=rP) (ev_nilwS rfl) rfl rfl ?_
    refine s7 [encS rP _,.int .i64 _] rfl ?_
    exact congrArg (fun x:Rws × Int=>[encS rP x.1,.int .i64 x.2]) (rst_bad l c (by omega)).symm
   refine s1 (ev_lss _ _ _) rfl rfl rfl ?_
   refine s4 rfl (fun g1=>?_) fun g1=>?_
   ·refine s1 (ev_neq _ _ _) rfl rfl rfl ?_
    refine s5 rfl (fun g2=>?_) fun g2=>?_
    ·refine s8 ?_
     omega
    refine s1 (ev_neq _ _ _) rfl rfl rfl ?_
    refine s5 rfl (fun g3=>?_) fun g3=>?_
    ·refine s8 ?_
     omega
    refine s2 (r:=rP) (ev_nilwS rfl) rfl rfl ?_
    refine s7 [encS rP _,.int .i64 _] rfl ?_
    exact congrArg (fun x:Rws × Int=>[encS rP x.1,.int .i64 x.2]) (rst_form l c (by omega) (by omega)).symm
   refine s1 (ev_gtr _ _ _) rfl rfl rfl ?_
   refine s4 rfl (fun g2=>?_) fun g2=>?_
   ·refine s1 (ev_neq _ _ _) rfl rfl rfl ?_
    refine s4 rfl (fun g3=>?_) fun g3=>?_
    ·refine s1 (ev_neq _ _ _) rfl rfl rfl ?_
     refine s4 rfl (fun g4=>?_) fun g4=>?_
     ·refine s2 (r:=rP) (ev_nilwS rfl) rfl rfl ?_
      refine s7 [encS rP _,.int .i64 _] rfl ?_
      exact congrArg (fun x:Rws × Int=>[encS rP x.1,.int .i64 x.2]) (rst_form l c (by omega) (by omega)).symm
     refine s1 (ev_lenS _ _) rfl rfl rfl ?_
     refine s1 (ev_lss _ _ _) rfl rfl rfl ?_
     refine s4 rfl (fun g5=>?_) fun g5=>?_
     ·refine s1 (ev_inbsS rfl) rfl rfl rfl ?_
      refine s5 rfl (fun g6=>?_) fun g6=>?_
      ·refine s8 ?_
       omega
      refine s2 (r:=rI) (ev_getS rfl (by omega) (by omega) rfl) rfl rfl ?_
      refine s2 (r:=rI) (ev_mkS [] rfl (by decide) rfl) rfl rfl ?_
      refine s2 (r:=rI) (ev_catS rfl (by first|(rw [hn0,Nat.zero_add]; exact hL _)|omega)) rfl rfl ?_
      refine s1 (ev_lss _ _ _) rfl rfl rfl ?_
      refine s4 rfl (fun g7=>?_) fun g7=>?_
      ·refine s1 (ev_inbsS rfl) rfl rfl rfl ?_
       refine s5 rfl (fun g8=>?_) fun g8=>?_
       ·refine s8 ?_
        omega
       refine s2 (r:=rI) (ev_getS rfl (by omega) (by omega) rfl) rfl rfl ?_
       refine s2 (r:=rI) (ev_mkS [] rfl (by decide) rfl) rfl rfl ?_
       refine s2 (r:=rI) (ev_catS rfl (by first|(rw [hn0,Nat.zero_add]; exact hL _)|omega)) rfl rfl ?_
       refine s1 (ev_lss _ _ _) rfl rfl rfl ?_
       refine s4 rfl (fun g9=>?_) fun g9=>?_
       ·refine s1 (ev_inbsS rfl) rfl rfl rfl ?_
        refine s5 rfl (fun g10=>?_) fun g10=>?_
        ·refine s8 ?_
         omega
        refine s2 (r:=rI) (ev_getS rfl (by omega) (by omega) rfl) rfl rfl ?_
        refine s2 (r:=rI) (ev_mkS [] rfl (by decide) rfl) rfl rfl ?_
        refine s2 (r:=rI) (ev_catS rfl (by first|(rw [hn0,Nat.zero_add]; exact hL _)|omega)) rfl rfl ?_
        refine s1 (ev_lss _ _ _) rfl rfl rfl ?_
        refine s4 rfl (fun g11=>?_) fun g11=>?_
        ·refine s1 (ev_inbsS rfl) rfl rfl rfl ?_
         refine s5 rfl (fun g12=>?_) fun g12=>?_
         ·refine s8 ?_
          omega
         refine s2 (r:=rI) (ev_getS rfl (by omega) (by omega) rfl) rfl rfl ?_
         refine s2 (r:=rI) (ev_mkS [] rfl (by decide) rfl) rfl rfl ?_
         refine s2 (r:=rI) (ev_catS rfl (by first|(rw [hn0,Nat.zero_add]; exact hL _)|omega)) rfl rfl ?_
         refine s1 (ev_lss _ _ _) rfl rfl rfl ?_
         refine s4 rfl (fun g13=>?_) fun g13=>?_
         ·refine s1 (ev_inbsS rfl) rfl rfl rfl ?_
          refine s5 rfl (fun g14=>?_) fun g14=>?_
          ·refine s8 ?_
           omega
          refine s2 (r:=rI) (ev_getS rfl (by omega) (by omega) rfl) rfl rfl ?_
          refine s2 (r:=rI) (ev_mkS [] rfl (by decide) rfl) rfl rfl ?_
          refine s2 (r:=rI) (ev_catS rfl (by first|(rw [hn0,Nat.zero_add]; exact hL _)|omega)) rfl rfl ?_
          refine s1 (ev_lss _ _ _) rfl rfl rfl ?_
          refine s4 rfl (fun g15=>?_) fun g15=>?_
          ·refine s1 (ev_inbsS rfl) rfl rfl rfl ?_
           refine s5 rfl (fun g16=>?_) fun g16=>?_
           ·refine s8 ?_
            omega
           refine s2 (r:=rI) (ev_getS rfl (by omega) (by omega) rfl) rfl rfl ?_
           refine s2 (r:=rI) (ev_mkS [] rfl (by decide) rfl) rfl rfl ?_
           refine s2 (r:=rI) (ev_catS rfl (by first|(rw [hn0,Nat.zero_add]; exact hL _)|omega)) rfl rfl ?_
           refine s1 (ev_lss _ _ _) rfl rfl rfl ?_
           refine s4 rfl (fun g17=>?_) fun g17=>?_
           ·refine s1 (ev_inbsS rfl) rfl rfl rfl ?_
            refine s5 rfl (fun g18=>?_) fun g18=>?_
            ·refine s8 ?_
             omega
            refine s2 (r:=rI) (ev_getS rfl (by omega) (by omega) rfl) rfl rfl ?_
            refine s2 (r:=rI) (ev_mkS [] rfl (by decide) rfl) rfl rfl ?_
            refine s2 (r:=rI) (ev_catS rfl (by first|(rw [hn0,Nat.zero_add]; exact hL _)|omega)) rfl rfl ?_
            refine s1 (ev_lss _ _ _) rfl rfl rfl ?_
            refine s4 rfl (fun g19=>?_) fun g19=>?_
            ·refine s1 (ev_inbsS rfl) rfl rfl rfl ?_
             refine s5 rfl (fun g20=>?_) fun g20=>?_
             ·refine s8 ?_
              omega
             refine s2 (r:=rI) (ev_getS rfl (by omega) (by omega) rfl) rfl rfl ?_
             refine s2 (r:=rI) (ev_mkS [] rfl (by decide) rfl) rfl rfl ?_
             refine s2 (r:=rI) (ev_catS rfl (by first|(rw [hn0,Nat.zero_add]; exact hL _)|omega)) rfl rfl ?_
             refine s1 (ev_lss _ _ _) rfl rfl rfl ?_
             refine s4 rfl (fun g21=>?_) fun g21=>?_
             ·refine s1 (ev_inbsS rfl) rfl rfl rfl ?_
              refine s5 rfl (fun g22=>?_) fun g22=>?_
              ·refine s8 ?_
               omega
              refine s2 (r:=rI) (ev_getS rfl (by omega) (by omega) rfl) rfl rfl ?_
              refine s2 (r:=rI) (ev_mkS [] rfl (by decide) rfl) rfl rfl ?_
              refine s2 (r:=rI) (ev_catS rfl (by first|(rw [hn0,Nat.zero_add]; exact hL _)|omega)) rfl rfl ?_
              refine s1 (ev_lss _ _ _) rfl rfl rfl ?_
              refine s4 rfl (fun g23=>?_) fun g23=>?_
              ·refine s1 (ev_inbsS rfl) rfl rfl rfl ?_
               refine s5 rfl (fun g24=>?_) fun g24=>?_
               ·refine s8 ?_
                omega
               refine s2 (r:=rI) (ev_getS rfl (by omega) (by omega) rfl) rfl rfl ?_
               refine s2 (r:=rI) (ev_mkS [] rfl (by decide) rfl) rfl rfl ?_
               refine s2 (r:=rI) (ev_catS rfl (by first|(rw [hn0,Nat.zero_add]; exact hL _)|omega)) rfl rfl ?_
               refine s1 (ev_lss _ _ _) rfl rfl rfl ?_
               refine s4 rfl (fun g25=>?_) fun g25=>?_
               ·refine s1 (ev_inbsS rfl) rfl rfl rfl ?_
                refine s5 rfl (fun g26=>?_) fun g26=>?_
                ·refine s8 ?_
                 omega
                refine s2 (r:=rI) (ev_getS rfl (by omega) (by omega) rfl) rfl rfl ?_
                refine s2 (r:=rI) (ev_mkS [] rfl (by decide) rfl) rfl rfl ?_
                refine s2 (r:=rI) (ev_catS rfl (by first|(rw [hn0,Nat.zero_add]; exact hL _)|omega)) rfl rfl ?_
                refine s1 (ev_lss _ _ _) rfl rfl rfl ?_
                refine s4 rfl (fun g27=>?_) fun g27=>?_
                ·refine s1 (ev_inbsS rfl) rfl rfl rfl ?_
                 refine s5 rfl (fun g28=>?_) fun g28=>?_
                 ·refine s8 ?_
                  omega
                 refine s2 (r:=rI) (ev_getS rfl (by omega) (by omega) rfl) rfl rfl ?_
                 refine s2 (r:=rI) (ev_mkS [] rfl (by decide) rfl) rfl rfl ?_
                 refine s2 (r:=rI) (ev_catS rfl (by first|(rw [hn0,Nat.zero_add]; exact hL _)|omega)) rfl rfl ?_
                 refine s1 (ev_lss _ _ _) rfl rfl rfl ?_
                 refine s4 rfl (fun g29=>?_) fun g29=>?_
                 ·refine s1 (ev_inbsS rfl) rfl rfl rfl ?_
                  refine s5 rfl (fun g30=>?_) fun g30=>?_
                  ·refine s8 ?_
                   omega
                  refine s2 (r:=rI) (ev_getS rfl (by omega) (by omega) rfl) rfl rfl ?_
                  refine s2 (r:=rI) (ev_mkS [] rfl (by decide) rfl) rfl rfl ?_
                  refine s2 (r:=rI) (ev_catS rfl (by first|(rw [hn0,Nat.zero_add]; exact hL _)|omega)) rfl rfl ?_
                  refine s1 (ev_lss _ _ _) rfl rfl rfl ?_
                  refine s4 rfl (fun g31=>?_) fun g31=>?_
                  ·refine s1 (ev_inbsS rfl) rfl rfl rfl ?_
                   refine s5 rfl (fun g32=>?_) fun g32=>?_
                   ·refine s8 ?_
                    omega
                   refine s2 (r:=rI) (ev_getS rfl (by omega) (by omega) rfl) rfl rfl ?_
                   refine s2 (r:=rI) (ev_mkS [] rfl (by decide) rfl) rfl rfl ?_
                   refine s2 (r:=rI) (ev_catS rfl (by first|(rw [hn0,Nat.zero_add]; exact hL _)|omega)) rfl rfl ?_
                   refine s1 (ev_lss _ _ _) rfl rfl rfl ?_
                   refine s4 rfl (fun g33=>?_) fun g33=>?_
                   ·refine s1 (ev_inbsS rfl) rfl rfl rfl ?_
                    refine s5 rfl (fun g34=>?_) fun g34=>?_
                    ·refine s8 ?_
                     omega
                    refine s2 (r:=rI) (ev_getS rfl (by omega) (by omega) rfl) rfl rfl ?_
                    refine s2 (r:=rI) (ev_mkS [] rfl (by decide) rfl) rfl rfl ?_
                    refine s2 (r:=rI) (ev_catS rfl (by first|(rw [hn0,Nat.zero_add]; exact hL _)|omega)) rfl rfl ?_
                    refine s1 (ev_lss _ _ _) rfl rfl rfl ?_
                    refine s4 rfl (fun g35=>?_) fun g35=>?_
                    ·refine s1 (ev_inbsS rfl) rfl rfl rfl ?_
                     refine s5 rfl (fun g36=>?_) fun g36=>?_
                     ·refine s8 ?_
                      omega
                     refine s2 (r:=rI) (ev_getS rfl (by omega) (by omega) rfl) rfl rfl ?_
                     refine s2 (r:=rI) (ev_mkS [] rfl (by decide) rfl) rfl rfl ?_
                     refine s2 (r:=rI) (ev_catS rfl (by first|(rw [hn0,Nat.zero_add]; exact hL _)|omega)) rfl rfl ?_
                     refine s1 (ev_lss _ _ _) rfl rfl rfl ?_
                     refine s4 rfl (fun g37=>?_) fun g37=>?_
                     ·refine s8 ?_
                      omega
                     have q1:=hf 15 (by omega) (by omega)
                     refine s1 (ev_lenS _ _) rfl rfl rfl ?_
                     first|refine s1 (ev_subW (wrap64 (by omega) (by omega))) rfl rfl rfl ?_|refine s1 (ev_sub _ _ _) rfl rfl rfl ?_
                     refine s1 (ev_eql _ _ _) rfl rfl rfl ?_
                     refine s5 rfl (fun g38=>?_) fun g38=>?_
                     ·refine s8 ?_
                      omega
                     refine s2 (r:=rP) (ev_nilwS rfl) rfl rfl ?_
                     refine s7 [encS rP _,.int .i64 _] rfl ?_
                     exact congrArg (fun x:Rws × Int=>[encS rP x.1,.int .i64 x.2]) (rst_s16 l c (by omega) (by omega) (by omega)).symm
                    have q1:=hf 14 (by omega) (by omega)
                    refine s1 (ev_lenS _ _) rfl rfl rfl ?_
                    first|refine s1 (ev_subW (wrap64 (by omega) (by omega))) rfl rfl rfl ?_|refine s1 (ev_sub _ _ _) rfl rfl rfl ?_
                    refine s1 (ev_eql _ _ _) rfl rfl rfl ?_
                    refine s5 rfl (fun g36=>?_) fun g36=>?_
                    ·refine s8 ?_
                     omega
                    refine s2 (r:=rI) (ev_mkS [_] rfl (by decide) rfl) rfl rfl ?_
                    refine s2 (r:=rP) (ev_mkS [_,_,_,_,_,_,_,_,_,_,_,_,_,_,_,_] rfl (by decide) rfl) rfl rfl ?_
                    refine s7 [encS rP _,.int .i64 _] rfl ?_
                    rw [rst_s l c 15 (by omega) (by omega) (by omega)]
                    simp only [cat_nil]
                    rfl
                   have q1:=hf 13 (by omega) (by omega)
                   refine s1 (ev_lenS _ _) rfl rfl rfl ?_
                   first|refine s1 (ev_subW (wrap64 (by omega) (by omega))) rfl rfl rfl ?_|refine s1 (ev_sub _ _ _) rfl rfl rfl ?_
                   refine s1 (ev_eql _ _ _) rfl rfl rfl ?_
                   refine s5 rfl (fun g34=>?_) fun g34=>?_
                   ·refine s8 ?_
                    omega
                   refine s2 (r:=rI) (ev_mkS [_] rfl (by decide) rfl) rfl rfl ?_
                   refine s2 (r:=rP) (ev_mkS [_,_,_,_,_,_,_,_,_,_,_,_,_,_,_] rfl (by decide) rfl) rfl rfl ?_
                   refine s7 [encS rP _,.int .i64 _] rfl ?_
                   rw [rst_s l c 14 (by omega) (by omega) (by omega)]
                   simp only [cat_nil]
                   rfl
                  have q1:=hf 12 (by omega) (by omega)
                  refine s1 (ev_lenS _ _) rfl rfl rfl ?_
                  first|refine s1 (ev_subW (wrap64 (by omega) (by omega))) rfl rfl rfl ?_|refine s1 (ev_sub _ _ _) rfl rfl rfl ?_
                  refine s1 (ev_eql _ _ _) rfl rfl rfl ?_
                  refine s5 rfl (fun g32=>?_) fun g32=>?_
                  ·refine s8 ?_
                   omega
                  refine s2 (r:=rI) (ev_mkS [_] rfl (by decide) rfl) rfl rfl ?_
                  refine s2 (r:=rP) (ev_mkS [_,_,_,_,_,_,_,_,_,_,_,_,_,_] rfl (by decide) rfl) rfl rfl ?_
                  refine s7 [encS rP _,.int .i64 _] rfl ?_
                  rw [rst_s l c 13 (by omega) (by omega) (by omega)]
                  simp only [cat_nil]
                  rfl
                 have q1:=hf 11 (by omega) (by omega)
                 refine s1 (ev_lenS _ _) rfl rfl rfl ?_
                 first|refine s1 (ev_subW (wrap64 (by omega) (by omega))) rfl rfl rfl ?_|refine s1 (ev_sub _ _ _) rfl rfl rfl ?_
                 refine s1 (ev_eql _ _ _) rfl rfl rfl ?_
                 refine s5 rfl (fun g30=>?_) fun g30=>?_
                 ·refine s8 ?_
                  omega
                 refine s2 (r:=rI) (ev_mkS [_] rfl (by decide) rfl) rfl rfl ?_
                 refine s2 (r:=rP) (ev_mkS [_,_,_,_,_,_,_,_,_,_,_,_,_] rfl (by decide) rfl) rfl rfl ?_
                 refine s7 [encS rP _,.int .i64 _] rfl ?_
                 rw [rst_s l c 12 (by omega) (by omega) (by omega)]
                 simp only [cat_nil]
                 rfl
                have q1:=hf 10 (by omega) (by omega)
                refine s1 (ev_lenS _ _) rfl rfl rfl ?_
                first|refine s1 (ev_subW (wrap64 (by omega) (by omega))) rfl rfl rfl ?_|refine s1 (ev_sub _ _ _) rfl rfl rfl ?_
                refine s1 (ev_eql _ _ _) rfl rfl rfl ?_
                refine s5 rfl (fun g28=>?_) fun g28=>?_
                ·refine s8 ?_
                 omega
                refine s2 (r:=rI) (ev_mkS [_] rfl (by decide) rfl) rfl rfl ?_
                refine s2 (r:=rP) (ev_mkS [_,_,_,_,_,_,_,_,_,_,_,_] rfl (by decide) rfl) rfl rfl ?_
                refine s7 [encS rP _,.int .i64 _] rfl ?_
                rw [rst_s l c 11 (by omega) (by omega) (by omega)]
                simp only [cat_nil]
                rfl
               have q1:=hf 9 (by omega) (by omega)
               refine s1 (ev_lenS _ _) rfl rfl rfl ?_
               first|refine s1 (ev_subW (wrap64 (by omega) (by omega))) rfl rfl rfl ?_|refine s1 (ev_sub _ _ _) rfl rfl rfl ?_
               refine s1 (ev_eql _ _ _) rfl rfl rfl ?_
               refine s5 rfl (fun g26=>?_) fun g26=>?_
               ·refine s8 ?_
                omega
               refine s2 (r:=rI) (ev_mkS [_] rfl (by decide) rfl) rfl rfl ?_
               refine s2 (r:=rP) (ev_mkS [_,_,_,_,_,_,_,_,_,_,_] rfl (by decide) rfl) rfl rfl ?_
               refine s7 [encS rP _,.int .i64 _] rfl ?_
               rw [rst_s l c 10 (by omega) (by omega) (by omega)]
               simp only [cat_nil]
               rfl
              have q1:=hf 8 (by omega) (by omega)
              refine s1 (ev_lenS _ _) rfl rfl rfl ?_
              first|refine s1 (ev_subW (wrap64 (by omega) (by omega))) rfl rfl rfl ?_|refine s1 (ev_sub _ _ _) rfl rfl rfl ?_
              refine s1 (ev_eql _ _ _) rfl rfl rfl ?_
              refine s5 rfl (fun g24=>?_) fun g24=>?_
              ·refine s8 ?_
               omega
              refine s2 (r:=rI) (ev_mkS [_] rfl (by decide) rfl) rfl rfl ?_
              refine s2 (r:=rP) (ev_mkS [_,_,_,_,_,_,_,_,_,_] rfl (by decide) rfl) rfl rfl ?_
              refine s7 [encS rP _,.int .i64 _] rfl ?_
              rw [rst_s l c 9 (by omega) (by omega) (by omega)]
              simp only [cat_nil]
              rfl
             have q1:=hf 7 (by omega) (by omega)
             refine s1 (ev_lenS _ _) rfl rfl rfl ?_
             first|refine s1 (ev_subW (wrap64 (by omega) (by omega))) rfl rfl rfl ?_|refine s1 (ev_sub _ _ _) rfl rfl rfl ?_
             refine s1 (ev_eql _ _ _) rfl rfl rfl ?_
             refine s5 rfl (fun g22=>?_) fun g22=>?_
             ·refine s8 ?_
              omega
             refine s2 (r:=rI) (ev_mkS [_] rfl (by decide) rfl) rfl rfl ?_
             refine s2 (r:=rP) (ev_mkS [_,_,_,_,_,_,_,_,_] rfl (by decide) rfl) rfl rfl ?_
             refine s7 [encS rP _,.int .i64 _] rfl ?_
             rw [rst_s l c 8 (by omega) (by omega) (by omega)]
             simp only [cat_nil]
             rfl
            have q1:=hf 6 (by omega) (by omega)
            refine s1 (ev_lenS _ _) rfl rfl rfl ?_
            first|refine s1 (ev_subW (wrap64 (by omega) (by omega))) rfl rfl rfl ?_|refine s1 (ev_sub _ _ _) rfl rfl rfl ?_
            refine s1 (ev_eql _ _ _) rfl rfl rfl ?_
            refine s5 rfl (fun g20=>?_) fun g20=>?_
            ·refine s8 ?_
             omega
            refine s2 (r:=rI) (ev_mkS [_] rfl (by decide) rfl) rfl rfl ?_
            refine s2 (r:=rP) (ev_mkS [_,_,_,_,_,_,_,_] rfl (by decide) rfl) rfl rfl ?_
            refine s7 [encS rP _,.int .i64 _] rfl ?_
            rw [rst_s l c 7 (by omega) (by omega) (by omega)]
            simp only [cat_nil]
            rfl
           have q1:=hf 5 (by omega) (by omega)
           refine s1 (ev_lenS _ _) rfl rfl rfl ?_
           first|refine s1 (ev_subW (wrap64 (by omega) (by omega))) rfl rfl rfl ?_|refine s1 (ev_sub _ _ _) rfl rfl rfl ?_
           refine s1 (ev_eql _ _ _) rfl rfl rfl ?_
           refine s5 rfl (fun g18=>?_) fun g18=>?_
           ·refine s8 ?_
            omega
           refine s2 (r:=rI) (ev_mkS [_] rfl (by decide) rfl) rfl rfl ?_
           refine s2 (r:=rP) (ev_mkS [_,_,_,_,_,_,_] rfl (by decide) rfl) rfl rfl ?_
           refine s7 [encS rP _,.int .i64 _] rfl ?_
           rw [rst_s l c 6 (by omega) (by omega) (by omega)]
           simp only [cat_nil]
           rfl
          have q1:=hf 4 (by omega) (by omega)
          refine s1 (ev_lenS _ _) rfl rfl rfl ?_
          first|refine s1 (ev_subW (wrap64 (by omega) (by omega))) rfl rfl rfl ?_|refine s1 (ev_sub _ _ _) rfl rfl rfl ?_
          refine s1 (ev_eql _ _ _) rfl rfl rfl ?_
          refine s5 rfl (fun g16=>?_) fun g16=>?_
          ·refine s8 ?_
           omega
          refine s2 (r:=rI) (ev_mkS [_] rfl (by decide) rfl) rfl rfl ?_
          refine s2 (r:=rP) (ev_mkS [_,_,_,_,_,_] rfl (by decide) rfl) rfl rfl ?_
          refine s7 [encS rP _,.int .i64 _] rfl ?_
          rw [rst_s l c 5 (by omega) (by omega) (by omega)]
          simp only [cat_nil]
          rfl
         have q1:=hf 3 (by omega) (by omega)
         refine s1 (ev_lenS _ _) rfl rfl rfl ?_
         first|refine s1 (ev_subW (wrap64 (by omega) (by omega))) rfl rfl rfl ?_|refine s1 (ev_sub _ _ _) rfl rfl rfl ?_
         refine s1 (ev_eql _ _ _) rfl rfl rfl ?_
         refine s5 rfl (fun g14=>?_) fun g14=>?_
         ·refine s8 ?_
          omega
         refine s2 (r:=rI) (ev_mkS [_] rfl (by decide) rfl) rfl rfl ?_
         refine s2 (r:=rP) (ev_mkS [_,_,_,_,_] rfl (by decide) rfl) rfl rfl ?_
         refine s7 [encS rP _,.int .i64 _] rfl ?_
         rw [rst_s l c 4 (by omega) (by omega) (by omega)]
         simp only [cat_nil]
         rfl
        have q1:=hf 2 (by omega) (by omega)
        refine s1 (ev_lenS _ _) rfl rfl rfl ?_
        first|refine s1 (ev_subW (wrap64 (by omega) (by omega))) rfl rfl rfl ?_|refine s1 (ev_sub _ _ _) rfl rfl rfl ?_
        refine s1 (ev_eql _ _ _) rfl rfl rfl ?_
        refine s5 rfl (fun g12=>?_) fun g12=>?_
        ·refine s8 ?_
         omega
        refine s2 (r:=rI) (ev_mkS [_] rfl (by decide) rfl) rfl rfl ?_
        refine s2 (r:=rP) (ev_mkS [_,_,_,_] rfl (by decide) rfl) rfl rfl ?_
        refine s7 [encS rP _,.int .i64 _] rfl ?_
        rw [rst_s l c 3 (by omega) (by omega) (by omega)]
        simp only [cat_nil]
        rfl
       have q1:=hf 1 (by omega) (by omega)
       refine s1 (ev_lenS _ _) rfl rfl rfl ?_
       first|refine s1 (ev_subW (wrap64 (by omega) (by omega))) rfl rfl rfl ?_|refine s1 (ev_sub _ _ _) rfl rfl rfl ?_
       refine s1 (ev_eql _ _ _) rfl rfl rfl ?_
       refine s5 rfl (fun g10=>?_) fun g10=>?_
       ·refine s8 ?_
        omega
       refine s2 (r:=rI) (ev_mkS [_] rfl (by decide) rfl) rfl rfl ?_
       refine s2 (r:=rP) (ev_mkS [_,_,_] rfl (by decide) rfl) rfl rfl ?_
       refine s7 [encS rP _,.int .i64 _] rfl ?_
       rw [rst_s l c 2 (by omega) (by omega) (by omega)]
       simp only [cat_nil]
       rfl
      have q1:=hf 0 (by omega) (by omega)
      refine s1 (ev_lenS _ _) rfl rfl rfl ?_
      first|refine s1 (ev_subW (wrap64 (by omega) (by omega))) rfl rfl rfl ?_|refine s1 (ev_sub _ _ _) rfl rfl rfl ?_
      refine s1 (ev_eql _ _ _) rfl rfl rfl ?_
      refine s5 rfl (fun g8=>?_) fun g8=>?_
      ·refine s8 ?_
       omega
      refine s2 (r:=rI) (ev_mkS [_] rfl (by decide) rfl) rfl rfl ?_
      refine s2 (r:=rP) (ev_mkS [_,_] rfl (by decide) rfl) rfl rfl ?_
      refine s7 [encS rP _,.int .i64 _] rfl ?_
      rw [rst_s l c 1 (by omega) (by omega) (by omega)]
      simp only [cat_nil]
      rfl
     refine s1 (ev_eql _ _ _) rfl rfl rfl ?_
     refine s5 rfl (fun g6=>?_) fun g6=>?_
     ·refine s8 ?_
      omega
     refine s2 (r:=rI) (ev_mkS [_] rfl (by decide) rfl) rfl rfl ?_
     refine s2 (r:=rI) (ev_mkS [_] rfl (by decide) rfl) rfl rfl ?_
     refine s2 (r:=rP) (ev_mkS [_,_] rfl (by decide) rfl) rfl rfl ?_
     refine s7 [encS rP _,.int .i64 _] rfl ?_
     exact congrArg (fun x:Rws × Int=>[encS rP x.1,.int .i64 x.2]) (rst_s0 l c (by omega) (by omega) (by omega)).symm
    refine s1 (ev_lenS _ _) rfl rfl rfl ?_
    refine s1 (ev_lss _ _ _) rfl rfl rfl ?_
    refine s4 rfl (fun g4=>?_) fun g4=>?_
    ·refine s1 (ev_inbsS rfl) rfl rfl rfl ?_
     refine s5 rfl (fun g5=>?_) fun g5=>?_
     ·refine s8 ?_
      omega
     refine s2 (r:=rI) (ev_getS rfl (by omega) (by omega) rfl) rfl rfl ?_
     refine s2 (r:=rI) (ev_mkS [] rfl (by decide) rfl) rfl rfl ?_
     refine s2 (r:=rI) (ev_catS rfl (by first|(rw [hn0,Nat.zero_add]; exact hL _)|omega)) rfl rfl ?_
     refine s1 (ev_lss _ _ _) rfl rfl rfl ?_
     refine s4 rfl (fun g6=>?_) fun g6=>?_
     ·refine s1 (ev_inbsS rfl) rfl rfl rfl ?_
      refine s5 rfl (fun g7=>?_) fun g7=>?_
      ·refine s8 ?_
       omega
      refine s2 (r:=rI) (ev_getS rfl (by omega) (by omega) rfl) rfl rfl ?_
      refine s2 (r:=rI) (ev_mkS [] rfl (by decide) rfl) rfl rfl ?_
      refine s2 (r:=rI) (ev_catS rfl (by first|(rw [hn0,Nat.zero_add]; exact hL _)|omega)) rfl rfl ?_
      refine s1 (ev_lss _ _ _) rfl rfl rfl ?_
      refine s4 rfl (fun g8=>?_) fun g8=>?_
      ·refine s1 (ev_inbsS rfl) rfl rfl rfl ?_
       refine s5 rfl (fun g9=>?_) fun g9=>?_
       ·refine s8 ?_
        omega
       refine s2 (r:=rI) (ev_getS rfl (by omega) (by omega) rfl) rfl rfl ?_
       refine s2 (r:=rI) (ev_mkS [] rfl (by decide) rfl) rfl rfl ?_
       refine s2 (r:=rI) (ev_catS rfl (by first|(rw [hn0,Nat.zero_add]; exact hL _)|omega)) rfl rfl ?_
       refine s1 (ev_lss _ _ _) rfl rfl rfl ?_
       refine s4 rfl (fun g10=>?_) fun g10=>?_
       ·refine s1 (ev_inbsS rfl) rfl rfl rfl ?_
        refine s5 rfl (fun g11=>?_) fun g11=>?_
        ·refine s8 ?_
         omega
        refine s2 (r:=rI) (ev_getS rfl (by omega) (by omega) rfl) rfl rfl ?_
        refine s2 (r:=rI) (ev_mkS [] rfl (by decide) rfl) rfl rfl ?_
        refine s2 (r:=rI) (ev_catS rfl (by first|(rw [hn0,Nat.zero_add]; exact hL _)|omega)) rfl rfl ?_
        refine s1 (ev_lss _ _ _) rfl rfl rfl ?_
        refine s4 rfl (fun g12=>?_) fun g12=>?_
        ·refine s1 (ev_inbsS rfl) rfl rfl rfl ?_
         refine s5 rfl (fun g13=>?_) fun g13=>?_
         ·refine s8 ?_
          omega
         refine s2 (r:=rI) (ev_getS rfl (by omega) (by omega) rfl) rfl rfl ?_
         refine s2 (r:=rI) (ev_mkS [] rfl (by decide) rfl) rfl rfl ?_
         refine s2 (r:=rI) (ev_catS rfl (by first|(rw [hn0,Nat.zero_add]; exact hL _)|omega)) rfl rfl ?_
         refine s1 (ev_lss _ _ _) rfl rfl rfl ?_
         refine s4 rfl (fun g14=>?_) fun g14=>?_
         ·refine s1 (ev_inbsS rfl) rfl rfl rfl ?_
          refine s5 rfl (fun g15=>?_) fun g15=>?_
          ·refine s8 ?_
           omega
          refine s2 (r:=rI) (ev_getS rfl (by omega) (by omega) rfl) rfl rfl ?_
          refine s2 (r:=rI) (ev_mkS [] rfl (by decide) rfl) rfl rfl ?_
          refine s2 (r:=rI) (ev_catS rfl (by first|(rw [hn0,Nat.zero_add]; exact hL _)|omega)) rfl rfl ?_
          refine s1 (ev_lss _ _ _) rfl rfl rfl ?_
          refine s4 rfl (fun g16=>?_) fun g16=>?_
          ·refine s1 (ev_inbsS rfl) rfl rfl rfl ?_
           refine s5 rfl (fun g17=>?_) fun g17=>?_
           ·refine s8 ?_
            omega
           refine s2 (r:=rI) (ev_getS rfl (by omega) (by omega) rfl) rfl rfl ?_
           refine s2 (r:=rI) (ev_mkS [] rfl (by decide) rfl) rfl rfl ?_
           refine s2 (r:=rI) (ev_catS rfl (by first|(rw [hn0,Nat.zero_add]; exact hL _)|omega)) rfl rfl ?_
           refine s1 (ev_lss _ _ _) rfl rfl rfl ?_
           refine s4 rfl (fun g18=>?_) fun g18=>?_
           ·refine s1 (ev_inbsS rfl) rfl rfl rfl ?_
            refine s5 rfl (fun g19=>?_) fun g19=>?_
            ·refine s8 ?_
             omega
            refine s2 (r:=rI) (ev_getS rfl (by omega) (by omega) rfl) rfl rfl ?_
            refine s2 (r:=rI) (ev_mkS [] rfl (by decide) rfl) rfl rfl ?_
            refine s2 (r:=rI) (ev_catS rfl (by first|(rw [hn0,Nat.zero_add]; exact hL _)|omega)) rfl rfl ?_
            refine s1 (ev_lss _ _ _) rfl rfl rfl ?_
            refine s4 rfl (fun g20=>?_) fun g20=>?_
            ·refine s1 (ev_inbsS rfl) rfl rfl rfl ?_
             refine s5 rfl (fun g21=>?_) fun g21=>?_
             ·refine s8 ?_
              omega
             refine s2 (r:=rI) (ev_getS rfl (by omega) (by omega) rfl) rfl rfl ?_
             refine s2 (r:=rI) (ev_mkS [] rfl (by decide) rfl) rfl rfl ?_
             refine s2 (r:=rI) (ev_catS rfl (by first|(rw [hn0,Nat.zero_add]; exact hL _)|omega)) rfl rfl ?_
             refine s1 (ev_lss _ _ _) rfl rfl rfl ?_
             refine s4 rfl (fun g22=>?_) fun g22=>?_
             ·refine s1 (ev_inbsS rfl) rfl rfl rfl ?_
              refine s5 rfl (fun g23=>?_) fun g23=>?_
              ·refine s8 ?_
               omega
              refine s2 (r:=rI) (ev_getS rfl (by omega) (by omega) rfl) rfl rfl ?_
              refine s2 (r:=rI) (ev_mkS [] rfl (by decide) rfl) rfl rfl ?_
              refine s2 (r:=rI) (ev_catS rfl (by first|(rw [hn0,Nat.zero_add]; exact hL _)|omega)) rfl rfl ?_
              refine s1 (ev_lss _ _ _) rfl rfl rfl ?_
              refine s4 rfl (fun g24=>?_) fun g24=>?_
              ·refine s1 (ev_inbsS rfl) rfl rfl rfl ?_
               refine s5 rfl (fun g25=>?_) fun g25=>?_
               ·refine s8 ?_
                omega
               refine s2 (r:=rI) (ev_getS rfl (by omega) (by omega) rfl) rfl rfl ?_
               refine s2 (r:=rI) (ev_mkS [] rfl (by decide) rfl) rfl rfl ?_
               refine s2 (r:=rI) (ev_catS rfl (by first|(rw [hn0,Nat.zero_add]; exact hL _)|omega)) rfl rfl ?_
               refine s1 (ev_lss _ _ _) rfl rfl rfl ?_
               refine s4 rfl (fun g26=>?_) fun g26=>?_
               ·refine s1 (ev_inbsS rfl) rfl rfl rfl ?_
                refine s5 rfl (fun g27=>?_) fun g27=>?_
                ·refine s8 ?_
                 omega
                refine s2 (r:=rI) (ev_getS rfl (by omega) (by omega) rfl) rfl rfl ?_
                refine s2 (r:=rI) (ev_mkS [] rfl (by decide) rfl) rfl rfl ?_
                refine s2 (r:=rI) (ev_catS rfl (by first|(rw [hn0,Nat.zero_add]; exact hL _)|omega)) rfl rfl ?_
                refine s1 (ev_lss _ _ _) rfl rfl rfl ?_
                refine s4 rfl (fun g28=>?_) fun g28=>?_
                ·refine s1 (ev_inbsS rfl) rfl rfl rfl ?_
                 refine s5 rfl (fun g29=>?_) fun g29=>?_
                 ·refine s8 ?_
                  omega
                 refine s2 (r:=rI) (ev_getS rfl (by omega) (by omega) rfl) rfl rfl ?_
                 refine s2 (r:=rI) (ev_mkS [] rfl (by decide) rfl) rfl rfl ?_
                 refine s2 (r:=rI) (ev_catS rfl (by first|(rw [hn0,Nat.zero_add]; exact hL _)|omega)) rfl rfl ?_
                 refine s1 (ev_lss _ _ _) rfl rfl rfl ?_
                 refine s4 rfl (fun g30=>?_) fun g30=>?_
                 ·refine s1 (ev_inbsS rfl) rfl rfl rfl ?_
                  refine s5 rfl (fun g31=>?_) fun g31=>?_
                  ·refine s8 ?_
                   omega
                  refine s2 (r:=rI) (ev_getS rfl (by omega) (by omega) rfl) rfl rfl ?_
                  refine s2 (r:=rI) (ev_mkS [] rfl (by decide) rfl) rfl rfl ?_
                  refine s2 (r:=rI) (ev_catS rfl (by first|(rw [hn0,Nat.zero_add]; exact hL _)|omega)) rfl rfl ?_
                  refine s1 (ev_lss _ _ _) rfl rfl rfl ?_
                  refine s4 rfl (fun g32=>?_) fun g32=>?_
                  ·refine s1 (ev_inbsS rfl) rfl rfl rfl ?_
                   refine s5 rfl (fun g33=>?_) fun g33=>?_
                   ·refine s8 ?_
                    omega
                   refine s2 (r:=rI) (ev_getS rfl (by omega) (by omega) rfl) rfl rfl ?_
                   refine s2 (r:=rI) (ev_mkS [] rfl (by decide) rfl) rfl rfl ?_
                   refine s2 (r:=rI) (ev_catS rfl (by first|(rw [hn0,Nat.zero_add]; exact hL _)|omega)) rfl rfl ?_
                   refine s1 (ev_lss _ _ _) rfl rfl rfl ?_
                   refine s4 rfl (fun g34=>?_) fun g34=>?_
                   ·refine s1 (ev_inbsS rfl) rfl rfl rfl ?_
                    refine s5 rfl (fun g35=>?_) fun g35=>?_
                    ·refine s8 ?_
                     omega
                    refine s2 (r:=rI) (ev_getS rfl (by omega) (by omega) rfl) rfl rfl ?_
                    refine s2 (r:=rI) (ev_mkS [] rfl (by decide) rfl) rfl rfl ?_
                    refine s2 (r:=rI) (ev_catS rfl (by first|(rw [hn0,Nat.zero_add]; exact hL _)|omega)) rfl rfl ?_
                    refine s1 (ev_lss _ _ _) rfl rfl rfl ?_
                    refine s4 rfl (fun g36=>?_) fun g36=>?_
                    ·refine s8 ?_
                     omega
                    have q1:=hf 15 (by omega) (by omega)
                    refine s1 (ev_lenS _ _) rfl rfl rfl ?_
                    first|refine s1 (ev_subW (wrap64 (by omega) (by omega))) rfl rfl rfl ?_|refine s1 (ev_sub _ _ _) rfl rfl rfl ?_
                    refine s1 (ev_eql _ _ _) rfl rfl rfl ?_
                    refine s4 rfl (fun g37=>?_) fun g37=>?_
                    ·refine s8 ?_
                     omega
                    refine s1 (ev_eql _ _ _) rfl rfl rfl ?_
                    refine s5 rfl (fun g38=>?_) fun g38=>?_
                    ·refine s8 ?_
                     omega
                    refine s1 (ev_eql _ _ _) rfl rfl rfl ?_
                    refine s4 rfl (fun g39=>?_) fun g39=>?_
                    ·refine s2 (r:=rP) (ev_nilwS rfl) rfl rfl ?_
                     refine s7 [encS rP _,.int .i64 _] rfl ?_
                     exact congrArg (fun x:Rws × Int=>[encS rP x.1,.int .i64 x.2]) (rst_c6 l c (by omega) (by omega) 15 (by omega) (show ((el ((el l).getD (Int.toNat 15) default)).length:Int)=6 by omega)).symm
                    refine s2 (r:=rI) (ev_snocR rfl rfl (by decide) (by first|(rw [hn0,Nat.zero_add]; exact hL _)|omega)) rfl rfl ?_
                    refine s2 (r:=rP) (ev_mkS [_,_,_,_,_,_,_,_,_,_,_,_,_,_,_,_] rfl (by decide) rfl) rfl rfl ?_
                    refine s7 [encS rP _,.int .i64 _] rfl ?_
                    rw [rst_c l c 15 (by omega) (by omega) (by omega) (show ((el ((el l).getD (Int.toNat 15) default)).length:Int) < 6 by omega)]
                    simp only [cat_nil]
                    rfl
                   have q1:=hf 14 (by omega) (by omega)
                   refine s1 (ev_lenS _ _) rfl rfl rfl ?_
                   first|refine s1 (ev_subW (wrap64 (by omega) (by omega))) rfl rfl rfl ?_|refine s1 (ev_sub _ _ _) rfl rfl rfl ?_
                   refine s1 (ev_eql _ _ _) rfl rfl rfl ?_
                   refine s4 rfl (fun g35=>?_) fun g35=>?_
                   ·refine s8 ?_
                    omega
                   refine s1 (ev_eql _ _ _) rfl rfl rfl ?_
                   refine s5 rfl (fun g36=>?_) fun g36=>?_
                   ·refine s8 ?_
                    omega
                   refine s1 (ev_eql _ _ _) rfl rfl rfl ?_
                   refine s4 rfl (fun g37=>?_) fun g37=>?_
                   ·refine s2 (r:=rP) (ev_nilwS rfl) rfl rfl ?_
                    refine s7 [encS rP _,.int .i64 _] rfl ?_
                    exact congrArg (fun x:Rws × Int=>[encS rP x.1,.int .i64 x.2]) (rst_c6 l c (by omega) (by omega) 14 (by omega) (show ((el ((el l).getD (Int.toNat 14) default)).length:Int)=6 by omega)).symm
                   refine s2 (r:=rI) (ev_snocR rfl rfl (by decide) (by first|(rw [hn0,Nat.zero_add]; exact hL _)|omega)) rfl rfl ?_
                   refine s2 (r:=rP) (ev_mkS [_,_,_,_,_,_,_,_,_,_,_,_,_,_,_] rfl (by decide) rfl) rfl rfl ?_
                   refine s7 [encS rP _,.int .i64 _] rfl ?_
                   rw [rst_c l c 14 (by omega) (by omega) (by omega) (show ((el ((el l).getD (Int.toNat 14) default)).length:Int) < 6 by omega)]
                   simp only [cat_nil]
                   rfl
                  have q1:=hf 13 (by omega) (by omega)
                  refine s1 (ev_lenS _ _) rfl rfl rfl ?_
                  first|refine s1 (ev_subW (wrap64 (by omega) (by omega))) rfl rfl rfl ?_|refine s1 (ev_sub _ _ _) rfl rfl rfl ?_
                  refine s1 (ev_eql _ _ _) rfl rfl rfl ?_
                  refine s4 rfl (fun g33=>?_) fun g33=>?_
                  ·refine s8 ?_
                   omega
                  refine s1 (ev_eql _ _ _) rfl rfl rfl ?_
                  refine s5 rfl (fun g34=>?_) fun g34=>?_
                  ·refine s8 ?_
                   omega
                  refine s1 (ev_eql _ _ _) rfl rfl rfl ?_
                  refine s4 rfl (fun g35=>?_) fun g35=>?_
                  ·refine s2 (r:=rP) (ev_nilwS rfl) rfl rfl ?_
                   refine s7 [encS rP _,.int .i64 _] rfl ?_
                   exact congrArg (fun x:Rws × Int=>[encS rP x.1,.int .i64 x.2]) (rst_c6 l c (by omega) (by omega) 13 (by omega) (show ((el ((el l).getD (Int.toNat 13) default)).length:Int)=6 by omega)).symm
                  refine s2 (r:=rI) (ev_snocR rfl rfl (by decide) (by first|(rw [hn0,Nat.zero_add]; exact hL _)|omega)) rfl rfl ?_
                  refine s2 (r:=rP) (ev_mkS [_,_,_,_,_,_,_,_,_,_,_,_,_,_] rfl (by decide) rfl) rfl rfl ?_
                  refine s7 [encS rP _,.int .i64 _] rfl ?_
                  rw [rst_c l c 13 (by omega) (by omega) (by omega) (show ((el ((el l).getD (Int.toNat 13) default)).length:Int) < 6 by omega)]
                  simp only [cat_nil]
                  rfl
                 have q1:=hf 12 (by omega) (by omega)
                 refine s1 (ev_lenS _ _) rfl rfl rfl ?_
                 first|refine s1 (ev_subW (wrap64 (by omega) (by omega))) rfl rfl rfl ?_|refine s1 (ev_sub _ _ _) rfl rfl rfl ?_
                 refine s1 (ev_eql _ _ _) rfl rfl rfl ?_
                 refine s4 rfl (fun g31=>?_) fun g31=>?_
                 ·refine s8 ?_
                  omega
                 refine s1 (ev_eql _ _ _) rfl rfl rfl ?_
                 refine s5 rfl (fun g32=>?_) fun g32=>?_
                 ·refine s8 ?_
                  omega
                 refine s1 (ev_eql _ _ _) rfl rfl rfl ?_
                 refine s4 rfl (fun g33=>?_) fun g33=>?_
                 ·refine s2 (r:=rP) (ev_nilwS rfl) rfl rfl ?_
                  refine s7 [encS rP _,.int .i64 _] rfl ?_
                  exact congrArg (fun x:Rws × Int=>[encS rP x.1,.int .i64 x.2]) (rst_c6 l c (by omega) (by omega) 12 (by omega) (show ((el ((el l).getD (Int.toNat 12) default)).length:Int)=6 by omega)).symm
                 refine s2 (r:=rI) (ev_snocR rfl rfl (by decide) (by first|(rw [hn0,Nat.zero_add]; exact hL _)|omega)) rfl rfl ?_
                 refine s2 (r:=rP) (ev_mkS [_,_,_,_,_,_,_,_,_,_,_,_,_] rfl (by decide) rfl) rfl rfl ?_
                 refine s7 [encS rP _,.int .i64 _] rfl ?_
                 rw [rst_c l c 12 (by omega) (by omega) (by omega) (show ((el ((el l).getD (Int.toNat 12) default)).length:Int) < 6 by omega)]
                 simp only [cat_nil]
                 rfl
                have q1:=hf 11 (by omega) (by omega)
                refine s1 (ev_lenS _ _) rfl rfl rfl ?_
                first|refine s1 (ev_subW (wrap64 (by omega) (by omega))) rfl rfl rfl ?_|refine s1 (ev_sub _ _ _) rfl rfl rfl ?_
                refine s1 (ev_eql _ _ _) rfl rfl rfl ?_
                refine s4 rfl (fun g29=>?_) fun g29=>?_
                ·refine s8 ?_
                 omega
                refine s1 (ev_eql _ _ _) rfl rfl rfl ?_
                refine s5 rfl (fun g30=>?_) fun g30=>?_
                ·refine s8 ?_
                 omega
                refine s1 (ev_eql _ _ _) rfl rfl rfl ?_
                refine s4 rfl (fun g31=>?_) fun g31=>?_
                ·refine s2 (r:=rP) (ev_nilwS rfl) rfl rfl ?_
                 refine s7 [encS rP _,.int .i64 _] rfl ?_
                 exact congrArg (fun x:Rws × Int=>[encS rP x.1,.int .i64 x.2]) (rst_c6 l c (by omega) (by omega) 11 (by omega) (show ((el ((el l).getD (Int.toNat 11) default)).length:Int)=6 by omega)).symm
                refine s2 (r:=rI) (ev_snocR rfl rfl (by decide) (by first|(rw [hn0,Nat.zero_add]; exact hL _)|omega)) rfl rfl ?_
                refine s2 (r:=rP) (ev_mkS [_,_,_,_,_,_,_,_,_,_,_,_] rfl (by decide) rfl) rfl rfl ?_
                refine s7 [encS rP _,.int .i64 _] rfl ?_
                rw [rst_c l c 11 (by omega) (by omega) (by omega) (show ((el ((el l).getD (Int.toNat 11) default)).length:Int) < 6 by omega)]
                simp only [cat_nil]
                rfl
               have q1:=hf 10 (by omega) (by omega)
               refine s1 (ev_lenS _ _) rfl rfl rfl ?_
               first|refine s1 (ev_subW (wrap64 (by omega) (by omega))) rfl rfl rfl ?_|refine s1 (ev_sub _ _ _) rfl rfl rfl ?_
               refine s1 (ev_eql _ _ _) rfl rfl rfl ?_
               refine s4 rfl (fun g27=>?_) fun g27=>?_
               ·refine s8 ?_
                omega
               refine s1 (ev_eql _ _ _) rfl rfl rfl ?_
               refine s5 rfl (fun g28=>?_) fun g28=>?_
               ·refine s8 ?_
                omega
               refine s1 (ev_eql _ _ _) rfl rfl rfl ?_
               refine s4 rfl (fun g29=>?_) fun g29=>?_
               ·refine s2 (r:=rP) (ev_nilwS rfl) rfl rfl ?_
                refine s7 [encS rP _,.int .i64 _] rfl ?_
                exact congrArg (fun x:Rws × Int=>[encS rP x.1,.int .i64 x.2]) (rst_c6 l c (by omega) (by omega) 10 (by omega) (show ((el ((el l).getD (Int.toNat 10) default)).length:Int)=6 by omega)).symm
               refine s2 (r:=rI) (ev_snocR rfl rfl (by decide) (by first|(rw [hn0,Nat.zero_add]; exact hL _)|omega)) rfl rfl ?_
               refine s2 (r:=rP) (ev_mkS [_,_,_,_,_,_,_,_,_,_,_] rfl (by decide) rfl) rfl rfl ?_
               refine s7 [encS rP _,.int .i64 _] rfl ?_
               rw [rst_c l c 10 (by omega) (by omega) (by omega) (show ((el ((el l).getD (Int.toNat 10) default)).length:Int) < 6 by omega)]
               simp only [cat_nil]
               rfl
              have q1:=hf 9 (by omega) (by omega)
              refine s1 (ev_lenS _ _) rfl rfl rfl ?_
              first|refine s1 (ev_subW (wrap64 (by omega) (by omega))) rfl rfl rfl ?_|refine s1 (ev_sub _ _ _) rfl rfl rfl ?_
              refine s1 (ev_eql _ _ _) rfl rfl rfl ?_
              refine s4 rfl (fun g25=>?_) fun g25=>?_
              ·refine s8 ?_
               omega
              refine s1 (ev_eql _ _ _) rfl rfl rfl ?_
              refine s5 rfl (fun g26=>?_) fun g26=>?_
              ·refine s8 ?_
               omega
              refine s1 (ev_eql _ _ _) rfl rfl rfl ?_
              refine s4 rfl (fun g27=>?_) fun g27=>?_
              ·refine s2 (r:=rP) (ev_nilwS rfl) rfl rfl ?_
               refine s7 [encS rP _,.int .i64 _] rfl ?_
               exact congrArg (fun x:Rws × Int=>[encS rP x.1,.int .i64 x.2]) (rst_c6 l c (by omega) (by omega) 9 (by omega) (show ((el ((el l).getD (Int.toNat 9) default)).length:Int)=6 by omega)).symm
              refine s2 (r:=rI) (ev_snocR rfl rfl (by decide) (by first|(rw [hn0,Nat.zero_add]; exact hL _)|omega)) rfl rfl ?_
              refine s2 (r:=rP) (ev_mkS [_,_,_,_,_,_,_,_,_,_] rfl (by decide) rfl) rfl rfl ?_
              refine s7 [encS rP _,.int .i64 _] rfl ?_
              rw [rst_c l c 9 (by omega) (by omega) (by omega) (show ((el ((el l).getD (Int.toNat 9) default)).length:Int) < 6 by omega)]
              simp only [cat_nil]
              rfl
             have q1:=hf 8 (by omega) (by omega)
             refine s1 (ev_lenS _ _) rfl rfl rfl ?_
             first|refine s1 (ev_subW (wrap64 (by omega) (by omega))) rfl rfl rfl ?_|refine s1 (ev_sub _ _ _) rfl rfl rfl ?_
             refine s1 (ev_eql _ _ _) rfl rfl rfl ?_
             refine s4 rfl (fun g23=>?_) fun g23=>?_
             ·refine s8 ?_
              omega
             refine s1 (ev_eql _ _ _) rfl rfl rfl ?_
             refine s5 rfl (fun g24=>?_) fun g24=>?_
             ·refine s8 ?_
              omega
             refine s1 (ev_eql _ _ _) rfl rfl rfl ?_
             refine s4 rfl (fun g25=>?_) fun g25=>?_
             ·refine s2 (r:=rP) (ev_nilwS rfl) rfl rfl ?_
              refine s7 [encS rP _,.int .i64 _] rfl ?_
              exact congrArg (fun x:Rws × Int=>[encS rP x.1,.int .i64 x.2]) (rst_c6 l c (by omega) (by omega) 8 (by omega) (show ((el ((el l).getD (Int.toNat 8) default)).length:Int)=6 by omega)).symm
             refine s2 (r:=rI) (ev_snocR rfl rfl (by decide) (by first|(rw [hn0,Nat.zero_add]; exact hL _)|omega)) rfl rfl ?_
             refine s2 (r:=rP) (ev_mkS [_,_,_,_,_,_,_,_,_] rfl (by decide) rfl) rfl rfl ?_
             refine s7 [encS rP _,.int .i64 _] rfl ?_
             rw [rst_c l c 8 (by omega) (by omega) (by omega) (show ((el ((el l).getD (Int.toNat 8) default)).length:Int) < 6 by omega)]
             simp only [cat_nil]
             rfl
            have q1:=hf 7 (by omega) (by omega)
            refine s1 (ev_lenS _ _) rfl rfl rfl ?_
            first|refine s1 (ev_subW (wrap64 (by omega) (by omega))) rfl rfl rfl ?_|refine s1 (ev_sub _ _ _) rfl rfl rfl ?_
            refine s1 (ev_eql _ _ _) rfl rfl rfl ?_
            refine s4 rfl (fun g21=>?_) fun g21=>?_
            ·refine s8 ?_
             omega
            refine s1 (ev_eql _ _ _) rfl rfl rfl ?_
            refine s5 rfl (fun g22=>?_) fun g22=>?_
            ·refine s8 ?_
             omega
            refine s1 (ev_eql _ _ _) rfl rfl rfl ?_
            refine s4 rfl (fun g23=>?_) fun g23=>?_
            ·refine s2 (r:=rP) (ev_nilwS rfl) rfl rfl ?_
             refine s7 [encS rP _,.int .i64 _] rfl ?_
             exact congrArg (fun x:Rws × Int=>[encS rP x.1,.int .i64 x.2]) (rst_c6 l c (by omega) (by omega) 7 (by omega) (show ((el ((el l).getD (Int.toNat 7) default)).length:Int)=6 by omega)).symm
            refine s2 (r:=rI) (ev_snocR rfl rfl (by decide) (by first|(rw [hn0,Nat.zero_add]; exact hL _)|omega)) rfl rfl ?_
            refine s2 (r:=rP) (ev_mkS [_,_,_,_,_,_,_,_] rfl (by decide) rfl) rfl rfl ?_
            refine s7 [encS rP _,.int .i64 _] rfl ?_
            rw [rst_c l c 7 (by omega) (by omega) (by omega) (show ((el ((el l).getD (Int.toNat 7) default)).length:Int) < 6 by omega)]
            simp only [cat_nil]
            rfl
           have q1:=hf 6 (by omega) (by omega)
           refine s1 (ev_lenS _ _) rfl rfl rfl ?_
           first|refine s1 (ev_subW (wrap64 (by omega) (by omega))) rfl rfl rfl ?_|refine s1 (ev_sub _ _ _) rfl rfl rfl ?_
           refine s1 (ev_eql _ _ _) rfl rfl rfl ?_
           refine s4 rfl (fun g19=>?_) fun g19=>?_
           ·refine s8 ?_
            omega
           refine s1 (ev_eql _ _ _) rfl rfl rfl ?_
           refine s5 rfl (fun g20=>?_) fun g20=>?_
           ·refine s8 ?_
            omega
           refine s1 (ev_eql _ _ _) rfl rfl rfl ?_
           refine s4 rfl (fun g21=>?_) fun g21=>?_
           ·refine s2 (r:=rP) (ev_nilwS rfl) rfl rfl ?_
            refine s7 [encS rP _,.int .i64 _] rfl ?_
            exact congrArg (fun x:Rws × Int=>[encS rP x.1,.int .i64 x.2]) (rst_c6 l c (by omega) (by omega) 6 (by omega) (show ((el ((el l).getD (Int.toNat 6) default)).length:Int)=6 by omega)).symm
           refine s2 (r:=rI) (ev_snocR rfl rfl (by decide) (by first|(rw [hn0,Nat.zero_add]; exact hL _)|omega)) rfl rfl ?_
           refine s2 (r:=rP) (ev_mkS [_,_,_,_,_,_,_] rfl (by decide) rfl) rfl rfl ?_
           refine s7 [encS rP _,.int .i64 _] rfl ?_
           rw [rst_c l c 6 (by omega) (by omega) (by omega) (show ((el ((el l).getD (Int.toNat 6) default)).length:Int) < 6 by omega)]
           simp only [cat_nil]
           rfl
          have q1:=hf 5 (by omega) (by omega)
          refine s1 (ev_lenS _ _) rfl rfl rfl ?_
          first|refine s1 (ev_subW (wrap64 (by omega) (by omega))) rfl rfl rfl ?_|refine s1 (ev_sub _ _ _) rfl rfl rfl ?_
          refine s1 (ev_eql _ _ _) rfl rfl rfl ?_
          refine s4 rfl (fun g17=>?_) fun g17=>?_
          ·refine s8 ?_
           omega
          refine s1 (ev_eql _ _ _) rfl rfl rfl ?_
          refine s5 rfl (fun g18=>?_) fun g18=>?_
          ·refine s8 ?_
           omega
          refine s1 (ev_eql _ _ _) rfl rfl rfl ?_
          refine s4 rfl (fun g19=>?_) fun g19=>?_
          ·refine s2 (r:=rP) (ev_nilwS rfl) rfl rfl ?_
           refine s7 [encS rP _,.int .i64 _] rfl ?_
           exact congrArg (fun x:Rws × Int=>[encS rP x.1,.int .i64 x.2]) (rst_c6 l c (by omega) (by omega) 5 (by omega) (show ((el ((el l).getD (Int.toNat 5) default)).length:Int)=6 by omega)).symm
          refine s2 (r:=rI) (ev_snocR rfl rfl (by decide) (by first|(rw [hn0,Nat.zero_add]; exact hL _)|omega)) rfl rfl ?_
          refine s2 (r:=rP) (ev_mkS [_,_,_,_,_,_] rfl (by decide) rfl) rfl rfl ?_
          refine s7 [encS rP _,.int .i64 _] rfl ?_
          rw [rst_c l c 5 (by omega) (by omega) (by omega) (show ((el ((el l).getD (Int.toNat 5) default)).length:Int) < 6 by omega)]
          simp only [cat_nil]
          rfl
         have q1:=hf 4 (by omega) (by omega)
         refine s1 (ev_lenS _ _) rfl rfl rfl ?_
         first|refine s1 (ev_subW (wrap64 (by omega) (by omega))) rfl rfl rfl ?_|refine s1 (ev_sub _ _ _) rfl rfl rfl ?_
         refine s1 (ev_eql _ _ _) rfl rfl rfl ?_
         refine s4 rfl (fun g15=>?_) fun g15=>?_
         ·refine s8 ?_
          omega
         refine s1 (ev_eql _ _ _) rfl rfl rfl ?_
         refine s5 rfl (fun g16=>?_) fun g16=>?_
         ·refine s8 ?_
          omega
         refine s1 (ev_eql _ _ _) rfl rfl rfl ?_
         refine s4 rfl (fun g17=>?_) fun g17=>?_
         ·refine s2 (r:=rP) (ev_nilwS rfl) rfl rfl ?_
          refine s7 [encS rP _,.int .i64 _] rfl ?_
          exact congrArg (fun x:Rws × Int=>[encS rP x.1,.int .i64 x.2]) (rst_c6 l c (by omega) (by omega) 4 (by omega) (show ((el ((el l).getD (Int.toNat 4) default)).length:Int)=6 by omega)).symm
         refine s2 (r:=rI) (ev_snocR rfl rfl (by decide) (by first|(rw [hn0,Nat.zero_add]; exact hL _)|omega)) rfl rfl ?_
         refine s2 (r:=rP) (ev_mkS [_,_,_,_,_] rfl (by decide) rfl) rfl rfl ?_
         refine s7 [encS rP _,.int .i64 _] rfl ?_
         rw [rst_c l c 4 (by omega) (by omega) (by omega) (show ((el ((el l).getD (Int.toNat 4) default)).length:Int) < 6 by omega)]
         simp only [cat_nil]
         rfl
        have q1:=hf 3 (by omega) (by omega)
        refine s1 (ev_lenS _ _) rfl rfl rfl ?_
        first|refine s1 (ev_subW (wrap64 (by omega) (by omega))) rfl rfl rfl ?_|refine s1 (ev_sub _ _ _) rfl rfl rfl ?_
        refine s1 (ev_eql _ _ _) rfl rfl rfl ?_
        refine s4 rfl (fun g13=>?_) fun g13=>?_
        ·refine s8 ?_
         omega
        refine s1 (ev_eql _ _ _) rfl rfl rfl ?_
        refine s5 rfl (fun g14=>?_) fun g14=>?_
        ·refine s8 ?_
         omega
        refine s1 (ev_eql _ _ _) rfl rfl rfl ?_
        refine s4 rfl (fun g15=>?_) fun g15=>?_
        ·refine s2 (r:=rP) (ev_nilwS rfl) rfl rfl ?_
         refine s7 [encS rP _,.int .i64 _] rfl ?_
         exact congrArg (fun x:Rws × Int=>[encS rP x.1,.int .i64 x.2]) (rst_c6 l c (by omega) (by omega) 3 (by omega) (show ((el ((el l).getD (Int.toNat 3) default)).length:Int)=6 by omega)).symm
        refine s2 (r:=rI) (ev_snocR rfl rfl (by decide) (by first|(rw [hn0,Nat.zero_add]; exact hL _)|omega)) rfl rfl ?_
        refine s2 (r:=rP) (ev_mkS [_,_,_,_] rfl (by decide) rfl) rfl rfl ?_
        refine s7 [encS rP _,.int .i64 _] rfl ?_
        rw [rst_c l c 3 (by omega) (by omega) (by omega) (show ((el ((el l).getD (Int.toNat 3) default)).length:Int) < 6 by omega)]
        simp only [cat_nil]
        rfl
       have q1:=hf 2 (by omega) (by omega)
       refine s1 (ev_lenS _ _) rfl rfl rfl ?_
       first|refine s1 (ev_subW (wrap64 (by omega) (by omega))) rfl rfl rfl ?_|refine s1 (ev_sub _ _ _) rfl rfl rfl ?_
       refine s1 (ev_eql _ _ _) rfl rfl rfl ?_
       refine s4 rfl (fun g11=>?_) fun g11=>?_
       ·refine s8 ?_
        omega
       refine s1 (ev_eql _ _ _) rfl rfl rfl ?_
       refine s5 rfl (fun g12=>?_) fun g12=>?_
       ·refine s8 ?_
        omega
       refine s1 (ev_eql _ _ _) rfl rfl rfl ?_
       refine s4 rfl (fun g13=>?_) fun g13=>?_
       ·refine s2 (r:=rP) (ev_nilwS rfl) rfl rfl ?_
        refine s7 [encS rP _,.int .i64 _] rfl ?_
        exact congrArg (fun x:Rws × Int=>[encS rP x.1,.int .i64 x.2]) (rst_c6 l c (by omega) (by omega) 2 (by omega) (show ((el ((el l).getD (Int.toNat 2) default)).length:Int)=6 by omega)).symm
       refine s2 (r:=rI) (ev_snocR rfl rfl (by decide) (by first|(rw [hn0,Nat.zero_add]; exact hL _)|omega)) rfl rfl ?_
       refine s2 (r:=rP) (ev_mkS [_,_,_] rfl (by decide) rfl) rfl rfl ?_
       refine s7 [encS rP _,.int .i64 _] rfl ?_
       rw [rst_c l c 2 (by omega) (by omega) (by omega) (show ((el ((el l).getD (Int.toNat 2) default)).length:Int) < 6 by omega)]
       simp only [cat_nil]
       rfl
      have q1:=hf 1 (by omega) (by omega)
      refine s1 (ev_lenS _ _) rfl rfl rfl ?_
      first|refine s1 (ev_subW (wrap64 (by omega) (by omega))) rfl rfl rfl ?_|refine s1 (ev_sub _ _ _) rfl rfl rfl ?_
      refine s1 (ev_eql _ _ _) rfl rfl rfl ?_
      refine s4 rfl (fun g9=>?_) fun g9=>?_
      ·refine s8 ?_
       omega
      refine s1 (ev_eql _ _ _) rfl rfl rfl ?_
      refine s5 rfl (fun g10=>?_) fun g10=>?_
      ·refine s8 ?_
       omega
      refine s1 (ev_eql _ _ _) rfl rfl rfl ?_
      refine s4 rfl (fun g11=>?_) fun g11=>?_
      ·refine s2 (r:=rP) (ev_nilwS rfl) rfl rfl ?_
       refine s7 [encS rP _,.int .i64 _] rfl ?_
       exact congrArg (fun x:Rws × Int=>[encS rP x.1,.int .i64 x.2]) (rst_c6 l c (by omega) (by omega) 1 (by omega) (show ((el ((el l).getD (Int.toNat 1) default)).length:Int)=6 by omega)).symm
      refine s2 (r:=rI) (ev_snocR rfl rfl (by decide) (by first|(rw [hn0,Nat.zero_add]; exact hL _)|omega)) rfl rfl ?_
      refine s2 (r:=rP) (ev_mkS [_,_] rfl (by decide) rfl) rfl rfl ?_
      refine s7 [encS rP _,.int .i64 _] rfl ?_
      rw [rst_c l c 1 (by omega) (by omega) (by omega) (show ((el ((el l).getD (Int.toNat 1) default)).length:Int) < 6 by omega)]
      simp only [cat_nil]
      rfl
     have q1:=hf 0 (by omega) (by omega)
     refine s1 (ev_lenS _ _) rfl rfl rfl ?_
     first|refine s1 (ev_subW (wrap64 (by omega) (by omega))) rfl rfl rfl ?_|refine s1 (ev_sub _ _ _) rfl rfl rfl ?_
     refine s1 (ev_eql _ _ _) rfl rfl rfl ?_
     refine s4 rfl (fun g7=>?_) fun g7=>?_
     ·refine s8 ?_
      omega
     refine s1 (ev_eql _ _ _) rfl rfl rfl ?_
     refine s5 rfl (fun g8=>?_) fun g8=>?_
     ·refine s8 ?_
      omega
     refine s1 (ev_eql _ _ _) rfl rfl rfl ?_
     refine s4 rfl (fun g9=>?_) fun g9=>?_
     ·refine s2 (r:=rP) (ev_nilwS rfl) rfl rfl ?_
      refine s7 [encS rP _,.int .i64 _] rfl ?_
      exact congrArg (fun x:Rws × Int=>[encS rP x.1,.int .i64 x.2]) (rst_c6 l c (by omega) (by omega) 0 (by omega) (show ((el ((el l).getD (Int.toNat 0) default)).length:Int)=6 by omega)).symm
     refine s2 (r:=rI) (ev_snocR rfl rfl (by decide) (by first|(rw [hn0,Nat.zero_add]; exact hL _)|omega)) rfl rfl ?_
     refine s2 (r:=rP) (ev_mkS [_] rfl (by decide) rfl) rfl rfl ?_
     refine s7 [encS rP _,.int .i64 _] rfl ?_
     rw [rst_c l c 0 (by omega) (by omega) (by omega) (show ((el ((el l).getD (Int.toNat 0) default)).length:Int) < 6 by omega)]
     simp only [cat_nil]
     rfl
    refine s1 (ev_eql _ _ _) rfl rfl rfl ?_
    refine s4 rfl (fun g5=>?_) fun g5=>?_
    ·refine s8 ?_
     omega
    refine s1 (ev_eql _ _ _) rfl rfl rfl ?_
    refine s5 rfl (fun g6=>?_) fun g6=>?_
    ·refine s8 ?_
     omega
    refine s2 (r:=rI) (ev_mkS [_,_] rfl (by decide) rfl) rfl rfl ?_
    refine s2 (r:=rP) (ev_mkS [_] rfl (by decide) rfl) rfl rfl ?_
    refine s7 [encS rP _,.int .i64 _] rfl ?_
    exact congrArg (fun x:Rws × Int=>[encS rP x.1,.int .i64 x.2]) (rst_c0 l c (by omega) (by omega) (by omega)).symm
   refine s1 (ev_lenS _ _) rfl rfl rfl ?_
   refine s1 (ev_lss _ _ _) rfl rfl rfl ?_
   refine s4 rfl (fun g3=>?_) fun g3=>?_
   ·refine s1 (ev_inbsS rfl) rfl rfl rfl ?_
    refine s5 rfl (fun g4=>?_) fun g4=>?_
    ·refine s8 ?_
     omega
    refine s2 (r:=rI) (ev_getS rfl (by omega) (by omega) rfl) rfl rfl ?_
    refine s2 (r:=rI) (ev_mkS [] rfl (by decide) rfl) rfl rfl ?_
    refine s2 (r:=rI) (ev_catS rfl (by first|(rw [hn0,Nat.zero_add]; exact hL _)|omega)) rfl rfl ?_
    refine s1 (ev_lss _ _ _) rfl rfl rfl ?_
    refine s4 rfl (fun g5=>?_) fun g5=>?_
    ·refine s1 (ev_inbsS rfl) rfl rfl rfl ?_
     refine s5 rfl (fun g6=>?_) fun g6=>?_
     ·refine s8 ?_
      omega
     refine s2 (r:=rI) (ev_getS rfl (by omega) (by omega) rfl) rfl rfl ?_
     refine s2 (r:=rI) (ev_mkS [] rfl (by decide) rfl) rfl rfl ?_
     refine s2 (r:=rI) (ev_catS rfl (by first|(rw [hn0,Nat.zero_add]; exact hL _)|omega)) rfl rfl ?_
     refine s1 (ev_lss _ _ _) rfl rfl rfl ?_
     refine s4 rfl (fun g7=>?_) fun g7=>?_
     ·refine s1 (ev_inbsS rfl) rfl rfl rfl ?_
      refine s5 rfl (fun g8=>?_) fun g8=>?_
      ·refine s8 ?_
       omega
      refine s2 (r:=rI) (ev_getS rfl (by omega) (by omega) rfl) rfl rfl ?_
      refine s2 (r:=rI) (ev_mkS [] rfl (by decide) rfl) rfl rfl ?_
      refine s2 (r:=rI) (ev_catS rfl (by first|(rw [hn0,Nat.zero_add]; exact hL _)|omega)) rfl rfl ?_
      refine s1 (ev_lss _ _ _) rfl rfl rfl ?_
      refine s4 rfl (fun g9=>?_) fun g9=>?_
      ·refine s1 (ev_inbsS rfl) rfl rfl rfl ?_
       refine s5 rfl (fun g10=>?_) fun g10=>?_
       ·refine s8 ?_
        omega
       refine s2 (r:=rI) (ev_getS rfl (by omega) (by omega) rfl) rfl rfl ?_
       refine s2 (r:=rI) (ev_mkS [] rfl (by decide) rfl) rfl rfl ?_
       refine s2 (r:=rI) (ev_catS rfl (by first|(rw [hn0,Nat.zero_add]; exact hL _)|omega)) rfl rfl ?_
       refine s1 (ev_lss _ _ _) rfl rfl rfl ?_
       refine s4 rfl (fun g11=>?_) fun g11=>?_
       ·refine s1 (ev_inbsS rfl) rfl rfl rfl ?_
        refine s5 rfl (fun g12=>?_) fun g12=>?_
        ·refine s8 ?_
         omega
        refine s2 (r:=rI) (ev_getS rfl (by omega) (by omega) rfl) rfl rfl ?_
        refine s2 (r:=rI) (ev_mkS [] rfl (by decide) rfl) rfl rfl ?_
        refine s2 (r:=rI) (ev_catS rfl (by first|(rw [hn0,Nat.zero_add]; exact hL _)|omega)) rfl rfl ?_
        refine s1 (ev_lss _ _ _) rfl rfl rfl ?_
        refine s4 rfl (fun g13=>?_) fun g13=>?_
        ·refine s1 (ev_inbsS rfl) rfl rfl rfl ?_
         refine s5 rfl (fun g14=>?_) fun g14=>?_
         ·refine s8 ?_
          omega
         refine s2 (r:=rI) (ev_getS rfl (by omega) (by omega) rfl) rfl rfl ?_
         refine s2 (r:=rI) (ev_mkS [] rfl (by decide) rfl) rfl rfl ?_
         refine s2 (r:=rI) (ev_catS rfl (by first|(rw [hn0,Nat.zero_add]; exact hL _)|omega)) rfl rfl ?_
         refine s1 (ev_lss _ _ _) rfl rfl rfl ?_
         refine s4 rfl (fun g15=>?_) fun g15=>?_
         ·refine s1 (ev_inbsS rfl) rfl rfl rfl ?_
          refine s5 rfl (fun g16=>?_) fun g16=>?_
          ·refine s8 ?_
           omega
          refine s2 (r:=rI) (ev_getS rfl (by omega) (by omega) rfl) rfl rfl ?_
          refine s2 (r:=rI) (ev_mkS [] rfl (by decide) rfl) rfl rfl ?_
          refine s2 (r:=rI) (ev_catS rfl (by first|(rw [hn0,Nat.zero_add]; exact hL _)|omega)) rfl rfl ?_
          refine s1 (ev_lss _ _ _) rfl rfl rfl ?_
          refine s4 rfl (fun g17=>?_) fun g17=>?_
          ·refine s1 (ev_inbsS rfl) rfl rfl rfl ?_
           refine s5 rfl (fun g18=>?_) fun g18=>?_
           ·refine s8 ?_
            omega
           refine s2 (r:=rI) (ev_getS rfl (by omega) (by omega) rfl) rfl rfl ?_
           refine s2 (r:=rI) (ev_mkS [] rfl (by decide) rfl) rfl rfl ?_
           refine s2 (r:=rI) (ev_catS rfl (by first|(rw [hn0,Nat.zero_add]; exact hL _)|omega)) rfl rfl ?_
           refine s1 (ev_lss _ _ _) rfl rfl rfl ?_
           refine s4 rfl (fun g19=>?_) fun g19=>?_
           ·refine s1 (ev_inbsS rfl) rfl rfl rfl ?_
            refine s5 rfl (fun g20=>?_) fun g20=>?_
            ·refine s8 ?_
             omega
            refine s2 (r:=rI) (ev_getS rfl (by omega) (by omega) rfl) rfl rfl ?_
            refine s2 (r:=rI) (ev_mkS [] rfl (by decide) rfl) rfl rfl ?_
            refine s2 (r:=rI) (ev_catS rfl (by first|(rw [hn0,Nat.zero_add]; exact hL _)|omega)) rfl rfl ?_
            refine s1 (ev_lss _ _ _) rfl rfl rfl ?_
            refine s4 rfl (fun g21=>?_) fun g21=>?_
            ·refine s1 (ev_inbsS rfl) rfl rfl rfl ?_
             refine s5 rfl (fun g22=>?_) fun g22=>?_
             ·refine s8 ?_
              omega
             refine s2 (r:=rI) (ev_getS rfl (by omega) (by omega) rfl) rfl rfl ?_
             refine s2 (r:=rI) (ev_mkS [] rfl (by decide) rfl) rfl rfl ?_
             refine s2 (r:=rI) (ev_catS rfl (by first|(rw [hn0,Nat.zero_add]; exact hL _)|omega)) rfl rfl ?_
             refine s1 (ev_lss _ _ _) rfl rfl rfl ?_
             refine s4 rfl (fun g23=>?_) fun g23=>?_
             ·refine s1 (ev_inbsS rfl) rfl rfl rfl ?_
              refine s5 rfl (fun g24=>?_) fun g24=>?_
              ·refine s8 ?_
               omega
              refine s2 (r:=rI) (ev_getS rfl (by omega) (by omega) rfl) rfl rfl ?_
              refine s2 (r:=rI) (ev_mkS [] rfl (by decide) rfl) rfl rfl ?_
              refine s2 (r:=rI) (ev_catS rfl (by first|(rw [hn0,Nat.zero_add]; exact hL _)|omega)) rfl rfl ?_
              refine s1 (ev_lss _ _ _) rfl rfl rfl ?_
              refine s4 rfl (fun g25=>?_) fun g25=>?_
              ·refine s1 (ev_inbsS rfl) rfl rfl rfl ?_
               refine s5 rfl (fun g26=>?_) fun g26=>?_
               ·refine s8 ?_
                omega
               refine s2 (r:=rI) (ev_getS rfl (by omega) (by omega) rfl) rfl rfl ?_
               refine s2 (r:=rI) (ev_mkS [] rfl (by decide) rfl) rfl rfl ?_
               refine s2 (r:=rI) (ev_catS rfl (by first|(rw [hn0,Nat.zero_add]; exact hL _)|omega)) rfl rfl ?_
               refine s1 (ev_lss _ _ _) rfl rfl rfl ?_
               refine s4 rfl (fun g27=>?_) fun g27=>?_
               ·refine s1 (ev_inbsS rfl) rfl rfl rfl ?_
                refine s5 rfl (fun g28=>?_) fun g28=>?_
                ·refine s8 ?_
                 omega
                refine s2 (r:=rI) (ev_getS rfl (by omega) (by omega) rfl) rfl rfl ?_
                refine s2 (r:=rI) (ev_mkS [] rfl (by decide) rfl) rfl rfl ?_
                refine s2 (r:=rI) (ev_catS rfl (by first|(rw [hn0,Nat.zero_add]; exact hL _)|omega)) rfl rfl ?_
                refine s1 (ev_lss _ _ _) rfl rfl rfl ?_
                refine s4 rfl (fun g29=>?_) fun g29=>?_
                ·refine s1 (ev_inbsS rfl) rfl rfl rfl ?_
                 refine s5 rfl (fun g30=>?_) fun g30=>?_
                 ·refine s8 ?_
                  omega
                 refine s2 (r:=rI) (ev_getS rfl (by omega) (by omega) rfl) rfl rfl ?_
                 refine s2 (r:=rI) (ev_mkS [] rfl (by decide) rfl) rfl rfl ?_
                 refine s2 (r:=rI) (ev_catS rfl (by first|(rw [hn0,Nat.zero_add]; exact hL _)|omega)) rfl rfl ?_
                 refine s1 (ev_lss _ _ _) rfl rfl rfl ?_
                 refine s4 rfl (fun g31=>?_) fun g31=>?_
                 ·refine s1 (ev_inbsS rfl) rfl rfl rfl ?_
                  refine s5 rfl (fun g32=>?_) fun g32=>?_
                  ·refine s8 ?_
                   omega
                  refine s2 (r:=rI) (ev_getS rfl (by omega) (by omega) rfl) rfl rfl ?_
                  refine s2 (r:=rI) (ev_mkS [] rfl (by decide) rfl) rfl rfl ?_
                  refine s2 (r:=rI) (ev_catS rfl (by first|(rw [hn0,Nat.zero_add]; exact hL _)|omega)) rfl rfl ?_
                  refine s1 (ev_lss _ _ _) rfl rfl rfl ?_
                  refine s4 rfl (fun g33=>?_) fun g33=>?_
                  ·refine s1 (ev_inbsS rfl) rfl rfl rfl ?_
                   refine s5 rfl (fun g34=>?_) fun g34=>?_
                   ·refine s8 ?_
                    omega
                   refine s2 (r:=rI) (ev_getS rfl (by omega) (by omega) rfl) rfl rfl ?_
                   refine s2 (r:=rI) (ev_mkS [] rfl (by decide) rfl) rfl rfl ?_
                   refine s2 (r:=rI) (ev_catS rfl (by first|(rw [hn0,Nat.zero_add]; exact hL _)|omega)) rfl rfl ?_
                   refine s1 (ev_lss _ _ _) rfl rfl rfl ?_
                   refine s4 rfl (fun g35=>?_) fun g35=>?_
                   ·refine s8 ?_
                    omega
                   have q1:=hf 15 (by omega) (by omega)
                   refine s1 (ev_lenS _ _) rfl rfl rfl ?_
                   first|refine s1 (ev_subW (wrap64 (by omega) (by omega))) rfl rfl rfl ?_|refine s1 (ev_sub _ _ _) rfl rfl rfl ?_
                   refine s1 (ev_eql _ _ _) rfl rfl rfl ?_
                   refine s4 rfl (fun g36=>?_) fun g36=>?_
                   ·refine s8 ?_
                    omega
                   refine s1 (ev_eql _ _ _) rfl rfl rfl ?_
                   refine s4 rfl (fun g37=>?_) fun g37=>?_
                   ·refine s8 ?_
                    omega
                   refine s1 (ev_inbsS rfl) rfl rfl rfl ?_
                   refine s5 rfl (fun g38=>?_) fun g38=>?_
                   ·refine s8 ?_
                    omega
                   refine s1 (u:=.int .i64 _) (ev_getS rfl (by omega) (by omega) rfl) rfl rfl rfl ?_
                   refine s1 (ev_max _ _ _ _) rfl rfl rfl ?_
                   first|refine s1 (ev_mulW (wrap64 (by omega) (by omega))) rfl rfl rfl ?_|refine s1 (ev_mul _ _ _) rfl rfl rfl ?_
                   first|refine s1 (ev_subW (wrap8 (by omega) (by omega))) rfl rfl rfl ?_|refine s1 (ev_sub _ _ _) rfl rfl rfl ?_
                   first|refine s1 (ev_convW (wrap64 (by omega) (by omega))) rfl rfl rfl ?_|refine s1 (ev_conv _ _ _) rfl rfl rfl ?_
                   first|refine s1 (ev_addW (wrap64 (by omega) (by omega))) rfl rfl rfl ?_|refine s1 (ev_add _ _ _) rfl rfl rfl ?_
                   refine s1 (ev_min _ _ _ _) rfl rfl rfl ?_
                   refine s1 (ev_inbsS rfl) rfl rfl rfl ?_
                   refine s5 rfl (fun g39=>?_) fun g39=>?_
                   ·refine s8 ?_
                    omega
                   refine s2 (r:=rI) (ev_setS _ rfl (Nat.le_of_ble_eq_true rfl) (by omega) (by omega) rfl) rfl rfl ?_
                   refine s2 (r:=rP) (ev_mkS [_,_,_,_,_,_,_,_,_,_,_,_,_,_,_,_] rfl (by decide) rfl) rfl rfl ?_
                   refine s7 [encS rP _,.int .i64 _] rfl ?_
                   rw [rst_d l c 15 (by omega) ⟨by omega,show 1≤(el ((el l).getD (Int.toNat 15) default)).length by omega⟩ (by omega)]
                   simp only [cat_nil]
                   rfl
                  have q1:=hf 14 (by omega) (by omega)
                  refine s1 (ev_lenS _ _) rfl rfl rfl ?_
                  first|refine s1 (ev_subW (wrap64 (by omega) (by omega))) rfl rfl rfl ?_|refine s1 (ev_sub _ _ _) rfl rfl rfl ?_
                  refine s1 (ev_eql _ _ _) rfl rfl rfl ?_
                  refine s4 rfl (fun g34=>?_) fun g34=>?_
                  ·refine s8 ?_
                   omega
                  refine s1 (ev_eql _ _ _) rfl rfl rfl ?_
                  refine s4 rfl (fun g35=>?_) fun g35=>?_
                  ·refine s8 ?_
                   omega
                  refine s1 (ev_inbsS rfl) rfl rfl rfl ?_
                  refine s5 rfl (fun g36=>?_) fun g36=>?_
                  ·refine s8 ?_
                   omega
                  refine s1 (u:=.int .i64 _) (ev_getS rfl (by omega) (by omega) rfl) rfl rfl rfl ?_
                  refine s1 (ev_max _ _ _ _) rfl rfl rfl ?_
                  first|refine s1 (ev_mulW (wrap64 (by omega) (by omega))) rfl rfl rfl ?_|refine s1 (ev_mul _ _ _) rfl rfl rfl ?_
                  first|refine s1 (ev_subW (wrap8 (by omega) (by omega))) rfl rfl rfl ?_|refine s1 (ev_sub _ _ _) rfl rfl rfl ?_
                  first|refine s1 (ev_convW (wrap64 (by omega) (by omega))) rfl rfl rfl ?_|refine s1 (ev_conv _ _ _) rfl rfl rfl ?_
                  first|refine s1 (ev_addW (wrap64 (by omega) (by omega))) rfl rfl rfl ?_|refine s1 (ev_add _ _ _) rfl rfl rfl ?_
                  refine s1 (ev_min _ _ _ _) rfl rfl rfl ?_
                  refine s1 (ev_inbsS rfl) rfl rfl rfl ?_
                  refine s5 rfl (fun g37=>?_) fun g37=>?_
                  ·refine s8 ?_
                   omega
                  refine s2 (r:=rI) (ev_setS _ rfl (Nat.le_of_ble_eq_true rfl) (by omega) (by omega) rfl) rfl rfl ?_
                  refine s2 (r:=rP) (ev_mkS [_,_,_,_,_,_,_,_,_,_,_,_,_,_,_] rfl (by decide) rfl) rfl rfl ?_
                  refine s7 [encS rP _,.int .i64 _] rfl ?_
                  rw [rst_d l c 14 (by omega) ⟨by omega,show 1≤(el ((el l).getD (Int.toNat 14) default)).length by omega⟩ (by omega)]
                  simp only [cat_nil]
                  rfl
                 have q1:=hf 13 (by omega) (by omega)
                 refine s1 (ev_lenS _ _) rfl rfl rfl ?_
                 first|refine s1 (ev_subW (wrap64 (by omega) (by omega))) rfl rfl rfl ?_|refine s1 (ev_sub _ _ _) rfl rfl rfl ?_
                 refine s1 (ev_eql _ _ _) rfl rfl rfl ?_
                 refine s4 rfl (fun g32=>?_) fun g32=>?_
                 ·refine s8 ?_
                  omega
                 refine s1 (ev_eql _ _ _) rfl rfl rfl ?_
                 refine s4 rfl (fun g33=>?_) fun g33=>?_
                 ·refine s8 ?_
                  omega
                 refine s1 (ev_inbsS rfl) rfl rfl rfl ?_
                 refine s5 rfl (fun g34=>?_) fun g34=>?_
                 ·refine s8 ?_
                  omega
                 refine s1 (u:=.int .i64 _) (ev_getS rfl (by omega) (by omega) rfl) rfl rfl rfl ?_
                 refine s1 (ev_max _ _ _ _) rfl rfl rfl ?_
                 first|refine s1 (ev_mulW (wrap64 (by omega) (by omega))) rfl rfl rfl ?_|refine s1 (ev_mul _ _ _) rfl rfl rfl ?_
                 first|refine s1 (ev_subW (wrap8 (by omega) (by omega))) rfl rfl rfl ?_|refine s1 (ev_sub _ _ _) rfl rfl rfl ?_
                 first|refine s1 (ev_convW (wrap64 (by omega) (by omega))) rfl rfl rfl ?_|refine s1 (ev_conv _ _ _) rfl rfl rfl ?_
                 first|refine s1 (ev_addW (wrap64 (by omega) (by omega))) rfl rfl rfl ?_|refine s1 (ev_add _ _ _) rfl rfl rfl ?_
                 refine s1 (ev_min _ _ _ _) rfl rfl rfl ?_
                 refine s1 (ev_inbsS rfl) rfl rfl rfl ?_
                 refine s5 rfl (fun g35=>?_) fun g35=>?_
                 ·refine s8 ?_
                  omega
                 refine s2 (r:=rI) (ev_setS _ rfl (Nat.le_of_ble_eq_true rfl) (by omega) (by omega) rfl) rfl rfl ?_
                 refine s2 (r:=rP) (ev_mkS [_,_,_,_,_,_,_,_,_,_,_,_,_,_] rfl (by decide) rfl) rfl rfl ?_
                 refine s7 [encS rP _,.int .i64 _] rfl ?_
                 rw [rst_d l c 13 (by omega) ⟨by omega,show 1≤(el ((el l).getD (Int.toNat 13) default)).length by omega⟩ (by omega)]
                 simp only [cat_nil]
                 rfl
                have q1:=hf 12 (by omega) (by omega)
                refine s1 (ev_lenS _ _) rfl rfl rfl ?_
                first|refine s1 (ev_subW (wrap64 (by omega) (by omega))) rfl rfl rfl ?_|refine s1 (ev_sub _ _ _) rfl rfl rfl ?_
                refine s1 (ev_eql _ _ _) rfl rfl rfl ?_
                refine s4 rfl (fun g30=>?_) fun g30=>?_
                ·refine s8 ?_
                 omega
                refine s1 (ev_eql _ _ _) rfl rfl rfl ?_
                refine s4 rfl (fun g31=>?_) fun g31=>?_
                ·refine s8 ?_
                 omega
                refine s1 (ev_inbsS rfl) rfl rfl rfl ?_
                refine s5 rfl (fun g32=>?_) fun g32=>?_
                ·refine s8 ?_
                 omega
                refine s1 (u:=.int .i64 _) (ev_getS rfl (by omega) (by omega) rfl) rfl rfl rfl ?_
                refine s1 (ev_max _ _ _ _) rfl rfl rfl ?_
                first|refine s1 (ev_mulW (wrap64 (by omega) (by omega))) rfl rfl rfl ?_|refine s1 (ev_mul _ _ _) rfl rfl rfl ?_
                first|refine s1 (ev_subW (wrap8 (by omega) (by omega))) rfl rfl rfl ?_|refine s1 (ev_sub _ _ _) rfl rfl rfl ?_
                first|refine s1 (ev_convW (wrap64 (by omega) (by omega))) rfl rfl rfl ?_|refine s1 (ev_conv _ _ _) rfl rfl rfl ?_
                first|refine s1 (ev_addW (wrap64 (by omega) (by omega))) rfl rfl rfl ?_|refine s1 (ev_add _ _ _) rfl rfl rfl ?_
                refine s1 (ev_min _ _ _ _) rfl rfl rfl ?_
                refine s1 (ev_inbsS rfl) rfl rfl rfl ?_
                refine s5 rfl (fun g33=>?_) fun g33=>?_
                ·refine s8 ?_
                 omega
                refine s2 (r:=rI) (ev_setS _ rfl (Nat.le_of_ble_eq_true rfl) (by omega) (by omega) rfl) rfl rfl ?_
                refine s2 (r:=rP) (ev_mkS [_,_,_,_,_,_,_,_,_,_,_,_,_] rfl (by decide) rfl) rfl rfl ?_
                refine s7 [encS rP _,.int .i64 _] rfl ?_
                rw [rst_d l c 12 (by omega) ⟨by omega,show 1≤(el ((el l).getD (Int.toNat 12) default)).length by omega⟩ (by omega)]
                simp only [cat_nil]
                rfl
               have q1:=hf 11 (by omega) (by omega)
               refine s1 (ev_lenS _ _) rfl rfl rfl ?_
               first|refine s1 (ev_subW (wrap64 (by omega) (by omega))) rfl rfl rfl ?_|refine s1 (ev_sub _ _ _) rfl rfl rfl ?_
               refine s1 (ev_eql _ _ _) rfl rfl rfl ?_
               refine s4 rfl (fun g28=>?_) fun g28=>?_
               ·refine s8 ?_
                omega
               refine s1 (ev_eql _ _ _) rfl rfl rfl ?_
               refine s4 rfl (fun g29=>?_) fun g29=>?_
               ·refine s8 ?_
                omega
               refine s1 (ev_inbsS rfl) rfl rfl rfl ?_
               refine s5 rfl (fun g30=>?_) fun g30=>?_
               ·refine s8 ?_
                omega
               refine s1 (u:=.int .i64 _) (ev_getS rfl (by omega) (by omega) rfl) rfl rfl rfl ?_
               refine s1 (ev_max _ _ _ _) rfl rfl rfl ?_
               first|refine s1 (ev_mulW (wrap64 (by omega) (by omega))) rfl rfl rfl ?_|refine s1 (ev_mul _ _ _) rfl rfl rfl ?_
               first|refine s1 (ev_subW (wrap8 (by omega) (by omega))) rfl rfl rfl ?_|refine s1 (ev_sub _ _ _) rfl rfl rfl ?_
               first|refine s1 (ev_convW (wrap64 (by omega) (by omega))) rfl rfl rfl ?_|refine s1 (ev_conv _ _ _) rfl rfl rfl ?_
               first|refine s1 (ev_addW (wrap64 (by omega) (by omega))) rfl rfl rfl ?_|refine s1 (ev_add _ _ _) rfl rfl rfl ?_
               refine s1 (ev_min _ _ _ _) rfl rfl rfl ?_
               refine s1 (ev_inbsS rfl) rfl rfl rfl ?_
               refine s5 rfl (fun g31=>?_) fun g31=>?_
               ·refine s8 ?_
                omega
               refine s2 (r:=rI) (ev_setS _ rfl (Nat.le_of_ble_eq_true rfl) (by omega) (by omega) rfl) rfl rfl ?_
               refine s2 (r:=rP) (ev_mkS [_,_,_,_,_,_,_,_,_,_,_,_] rfl (by decide) rfl) rfl rfl ?_
               refine s7 [encS rP _,.int .i64 _] rfl ?_
               rw [rst_d l c 11 (by omega) ⟨by omega,show 1≤(el ((el l).getD (Int.toNat 11) default)).length by omega⟩ (by omega)]
               simp only [cat_nil]
               rfl
              have q1:=hf 10 (by omega) (by omega)
              refine s1 (ev_lenS _ _) rfl rfl rfl ?_
              first|refine s1 (ev_subW (wrap64 (by omega) (by omega))) rfl rfl rfl ?_|refine s1 (ev_sub _ _ _) rfl rfl rfl ?_
              refine s1 (ev_eql _ _ _) rfl rfl rfl ?_
              refine s4 rfl (fun g26=>?_) fun g26=>?_
              ·refine s8 ?_
               omega
              refine s1 (ev_eql _ _ _) rfl rfl rfl ?_
              refine s4 rfl (fun g27=>?_) fun g27=>?_
              ·refine s8 ?_
               omega
              refine s1 (ev_inbsS rfl) rfl rfl rfl ?_
              refine s5 rfl (fun g28=>?_) fun g28=>?_
              ·refine s8 ?_
               omega
              refine s1 (u:=.int .i64 _) (ev_getS rfl (by omega) (by omega) rfl) rfl rfl rfl ?_
              refine s1 (ev_max _ _ _ _) rfl rfl rfl ?_
              first|refine s1 (ev_mulW (wrap64 (by omega) (by omega))) rfl rfl rfl ?_|refine s1 (ev_mul _ _ _) rfl rfl rfl ?_
              first|refine s1 (ev_subW (wrap8 (by omega) (by omega))) rfl rfl rfl ?_|refine s1 (ev_sub _ _ _) rfl rfl rfl ?_
              first|refine s1 (ev_convW (wrap64 (by omega) (by omega))) rfl rfl rfl ?_|refine s1 (ev_conv _ _ _) rfl rfl rfl ?_
              first|refine s1 (ev_addW (wrap64 (by omega) (by omega))) rfl rfl rfl ?_|refine s1 (ev_add _ _ _) rfl rfl rfl ?_
              refine s1 (ev_min _ _ _ _) rfl rfl rfl ?_
              refine s1 (ev_inbsS rfl) rfl rfl rfl ?_
              refine s5 rfl (fun g29=>?_) fun g29=>?_
              ·refine s8 ?_
               omega
              refine s2 (r:=rI) (ev_setS _ rfl (Nat.le_of_ble_eq_true rfl) (by omega) (by omega) rfl) rfl rfl ?_
              refine s2 (r:=rP) (ev_mkS [_,_,_,_,_,_,_,_,_,_,_] rfl (by decide) rfl) rfl rfl ?_
              refine s7 [encS rP _,.int .i64 _] rfl ?_
              rw [rst_d l c 10 (by omega) ⟨by omega,show 1≤(el ((el l).getD (Int.toNat 10) default)).length by omega⟩ (by omega)]
              simp only [cat_nil]
              rfl
             have q1:=hf 9 (by omega) (by omega)
             refine s1 (ev_lenS _ _) rfl rfl rfl ?_
             first|refine s1 (ev_subW (wrap64 (by omega) (by omega))) rfl rfl rfl ?_|refine s1 (ev_sub _ _ _) rfl rfl rfl ?_
             refine s1 (ev_eql _ _ _) rfl rfl rfl ?_
             refine s4 rfl (fun g24=>?_) fun g24=>?_
             ·refine s8 ?_
              omega
             refine s1 (ev_eql _ _ _) rfl rfl rfl ?_
             refine s4 rfl (fun g25=>?_) fun g25=>?_
             ·refine s8 ?_
              omega
             refine s1 (ev_inbsS rfl) rfl rfl rfl ?_
             refine s5 rfl (fun g26=>?_) fun g26=>?_
             ·refine s8 ?_
              omega
             refine s1 (u:=.int .i64 _) (ev_getS rfl (by omega) (by omega) rfl) rfl rfl rfl ?_
             refine s1 (ev_max _ _ _ _) rfl rfl rfl ?_
             first|refine s1 (ev_mulW (wrap64 (by omega) (by omega))) rfl rfl rfl ?_|refine s1 (ev_mul _ _ _) rfl rfl rfl ?_
             first|refine s1 (ev_subW (wrap8 (by omega) (by omega))) rfl rfl rfl ?_|refine s1 (ev_sub _ _ _) rfl rfl rfl ?_
             first|refine s1 (ev_convW (wrap64 (by omega) (by omega))) rfl rfl rfl ?_|refine s1 (ev_conv _ _ _) rfl rfl rfl ?_
             first|refine s1 (ev_addW (wrap64 (by omega) (by omega))) rfl rfl rfl ?_|refine s1 (ev_add _ _ _) rfl rfl rfl ?_
             refine s1 (ev_min _ _ _ _) rfl rfl rfl ?_
             refine s1 (ev_inbsS rfl) rfl rfl rfl ?_
             refine s5 rfl (fun g27=>?_) fun g27=>?_
             ·refine s8 ?_
              omega
             refine s2 (r:=rI) (ev_setS _ rfl (Nat.le_of_ble_eq_true rfl) (by omega) (by omega) rfl) rfl rfl ?_
             refine s2 (r:=rP) (ev_mkS [_,_,_,_,_,_,_,_,_,_] rfl (by decide) rfl) rfl rfl ?_
             refine s7 [encS rP _,.int .i64 _] rfl ?_
             rw [rst_d l c 9 (by omega) ⟨by omega,show 1≤(el ((el l).getD (Int.toNat 9) default)).length by omega⟩ (by omega)]
             simp only [cat_nil]
             rfl
            have q1:=hf 8 (by omega) (by omega)
            refine s1 (ev_lenS _ _) rfl rfl rfl ?_
            first|refine s1 (ev_subW (wrap64 (by omega) (by omega))) rfl rfl rfl ?_|refine s1 (ev_sub _ _ _) rfl rfl rfl ?_
            refine s1 (ev_eql _ _ _) rfl rfl rfl ?_
            refine s4 rfl (fun g22=>?_) fun g22=>?_
            ·refine s8 ?_
             omega
            refine s1 (ev_eql _ _ _) rfl rfl rfl ?_
            refine s4 rfl (fun g23=>?_) fun g23=>?_
            ·refine s8 ?_
             omega
            refine s1 (ev_inbsS rfl) rfl rfl rfl ?_
            refine s5 rfl (fun g24=>?_) fun g24=>?_
            ·refine s8 ?_
             omega
            refine s1 (u:=.int .i64 _) (ev_getS rfl (by omega) (by omega) rfl) rfl rfl rfl ?_
            refine s1 (ev_max _ _ _ _) rfl rfl rfl ?_
            first|refine s1 (ev_mulW (wrap64 (by omega) (by omega))) rfl rfl rfl ?_|refine s1 (ev_mul _ _ _) rfl rfl rfl ?_
            first|refine s1 (ev_subW (wrap8 (by omega) (by omega))) rfl rfl rfl ?_|refine s1 (ev_sub _ _ _) rfl rfl rfl ?_
            first|refine s1 (ev_convW (wrap64 (by omega) (by omega))) rfl rfl rfl ?_|refine s1 (ev_conv _ _ _) rfl rfl rfl ?_
            first|refine s1 (ev_addW (wrap64 (by omega) (by omega))) rfl rfl rfl ?_|refine s1 (ev_add _ _ _) rfl rfl rfl ?_
            refine s1 (ev_min _ _ _ _) rfl rfl rfl ?_
            refine s1 (ev_inbsS rfl) rfl rfl rfl ?_
            refine s5 rfl (fun g25=>?_) fun g25=>?_
            ·refine s8 ?_
             omega
            refine s2 (r:=rI) (ev_setS _ rfl (Nat.le_of_ble_eq_true rfl) (by omega) (by omega) rfl) rfl rfl ?_
            refine s2 (r:=rP) (ev_mkS [_,_,_,_,_,_,_,_,_] rfl (by decide) rfl) rfl rfl ?_
            refine s7 [encS rP _,.int .i64 _] rfl ?_
            rw [rst_d l c 8 (by omega) ⟨by omega,show 1≤(el ((el l).getD (Int.toNat 8) default)).length by omega⟩ (by omega)]
            simp only [cat_nil]
            rfl
           have q1:=hf 7 (by omega) (by omega)
           refine s1 (ev_lenS _ _) rfl rfl rfl ?_
           first|refine s1 (ev_subW (wrap64 (by omega) (by omega))) rfl rfl rfl ?_|refine s1 (ev_sub _ _ _) rfl rfl rfl ?_
           refine s1 (ev_eql _ _ _) rfl rfl rfl ?_
           refine s4 rfl (fun g20=>?_) fun g20=>?_
           ·refine s8 ?_
            omega
           refine s1 (ev_eql _ _ _) rfl rfl rfl ?_
           refine s4 rfl (fun g21=>?_) fun g21=>?_
           ·refine s8 ?_
            omega
           refine s1 (ev_inbsS rfl) rfl rfl rfl ?_
           refine s5 rfl (fun g22=>?_) fun g22=>?_
           ·refine s8 ?_
            omega
           refine s1 (u:=.int .i64 _) (ev_getS rfl (by omega) (by omega) rfl) rfl rfl rfl ?_
           refine s1 (ev_max _ _ _ _) rfl rfl rfl ?_
           first|refine s1 (ev_mulW (wrap64 (by omega) (by omega))) rfl rfl rfl ?_|refine s1 (ev_mul _ _ _) rfl rfl rfl ?_
           first|refine s1 (ev_subW (wrap8 (by omega) (by omega))) rfl rfl rfl ?_|refine s1 (ev_sub _ _ _) rfl rfl rfl ?_
           first|refine s1 (ev_convW (wrap64 (by omega) (by omega))) rfl rfl rfl ?_|refine s1 (ev_conv _ _ _) rfl rfl rfl ?_
           first|refine s1 (ev_addW (wrap64 (by omega) (by omega))) rfl rfl rfl ?_|refine s1 (ev_add _ _ _) rfl rfl rfl ?_
           refine s1 (ev_min _ _ _ _) rfl rfl rfl ?_
           refine s1 (ev_inbsS rfl) rfl rfl rfl ?_
           refine s5 rfl (fun g23=>?_) fun g23=>?_
           ·refine s8 ?_
            omega
           refine s2 (r:=rI) (ev_setS _ rfl (Nat.le_of_ble_eq_true rfl) (by omega) (by omega) rfl) rfl rfl ?_
           refine s2 (r:=rP) (ev_mkS [_,_,_,_,_,_,_,_] rfl (by decide) rfl) rfl rfl ?_
           refine s7 [encS rP _,.int .i64 _] rfl ?_
           rw [rst_d l c 7 (by omega) ⟨by omega,show 1≤(el ((el l).getD (Int.toNat 7) default)).length by omega⟩ (by omega)]
           simp only [cat_nil]
           rfl
          have q1:=hf 6 (by omega) (by omega)
          refine s1 (ev_lenS _ _) rfl rfl rfl ?_
          first|refine s1 (ev_subW (wrap64 (by omega) (by omega))) rfl rfl rfl ?_|refine s1 (ev_sub _ _ _) rfl rfl rfl ?_
          refine s1 (ev_eql _ _ _) rfl rfl rfl ?_
          refine s4 rfl (fun g18=>?_) fun g18=>?_
          ·refine s8 ?_
           omega
          refine s1 (ev_eql _ _ _) rfl rfl rfl ?_
          refine s4 rfl (fun g19=>?_) fun g19=>?_
          ·refine s8 ?_
           omega
          refine s1 (ev_inbsS rfl) rfl rfl rfl ?_
          refine s5 rfl (fun g20=>?_) fun g20=>?_
          ·refine s8 ?_
           omega
          refine s1 (u:=.int .i64 _) (ev_getS rfl (by omega) (by omega) rfl) rfl rfl rfl ?_
          refine s1 (ev_max _ _ _ _) rfl rfl rfl ?_
          first|refine s1 (ev_mulW (wrap64 (by omega) (by omega))) rfl rfl rfl ?_|refine s1 (ev_mul _ _ _) rfl rfl rfl ?_
          first|refine s1 (ev_subW (wrap8 (by omega) (by omega))) rfl rfl rfl ?_|refine s1 (ev_sub _ _ _) rfl rfl rfl ?_
          first|refine s1 (ev_convW (wrap64 (by omega) (by omega))) rfl rfl rfl ?_|refine s1 (ev_conv _ _ _) rfl rfl rfl ?_
          first|refine s1 (ev_addW (wrap64 (by omega) (by omega))) rfl rfl rfl ?_|refine s1 (ev_add _ _ _) rfl rfl rfl ?_
          refine s1 (ev_min _ _ _ _) rfl rfl rfl ?_
          refine s1 (ev_inbsS rfl) rfl rfl rfl ?_
          refine s5 rfl (fun g21=>?_) fun g21=>?_
          ·refine s8 ?_
           omega
          refine s2 (r:=rI) (ev_setS _ rfl (Nat.le_of_ble_eq_true rfl) (by omega) (by omega) rfl) rfl rfl ?_
          refine s2 (r:=rP) (ev_mkS [_,_,_,_,_,_,_] rfl (by decide) rfl) rfl rfl ?_
          refine s7 [encS rP _,.int .i64 _] rfl ?_
          rw [rst_d l c 6 (by omega) ⟨by omega,show 1≤(el ((el l).getD (Int.toNat 6) default)).length by omega⟩ (by omega)]
          simp only [cat_nil]
          rfl
         have q1:=hf 5 (by omega) (by omega)
         refine s1 (ev_lenS _ _) rfl rfl rfl ?_
         first|refine s1 (ev_subW (wrap64 (by omega) (by omega))) rfl rfl rfl ?_|refine s1 (ev_sub _ _ _) rfl rfl rfl ?_
         refine s1 (ev_eql _ _ _) rfl rfl rfl ?_
         refine s4 rfl (fun g16=>?_) fun g16=>?_
         ·refine s8 ?_
          omega
         refine s1 (ev_eql _ _ _) rfl rfl rfl ?_
         refine s4 rfl (fun g17=>?_) fun g17=>?_
         ·refine s8 ?_
          omega
         refine s1 (ev_inbsS rfl) rfl rfl rfl ?_
         refine s5 rfl (fun g18=>?_) fun g18=>?_
         ·refine s8 ?_
          omega
         refine s1 (u:=.int .i64 _) (ev_getS rfl (by omega) (by omega) rfl) rfl rfl rfl ?_
         refine s1 (ev_max _ _ _ _) rfl rfl rfl ?_
         first|refine s1 (ev_mulW (wrap64 (by omega) (by omega))) rfl rfl rfl ?_|refine s1 (ev_mul _ _ _) rfl rfl rfl ?_
         first|refine s1 (ev_subW (wrap8 (by omega) (by omega))) rfl rfl rfl ?_|refine s1 (ev_sub _ _ _) rfl rfl rfl ?_
         first|refine s1 (ev_convW (wrap64 (by omega) (by omega))) rfl rfl rfl ?_|refine s1 (ev_conv _ _ _) rfl rfl rfl ?_
         first|refine s1 (ev_addW (wrap64 (by omega) (by omega))) rfl rfl rfl ?_|refine s1 (ev_add _ _ _) rfl rfl rfl ?_
         refine s1 (ev_min _ _ _ _) rfl rfl rfl ?_
         refine s1 (ev_inbsS rfl) rfl rfl rfl ?_
         refine s5 rfl (fun g19=>?_) fun g19=>?_
         ·refine s8 ?_
          omega
         refine s2 (r:=rI) (ev_setS _ rfl (Nat.le_of_ble_eq_true rfl) (by omega) (by omega) rfl) rfl rfl ?_
         refine s2 (r:=rP) (ev_mkS [_,_,_,_,_,_] rfl (by decide) rfl) rfl rfl ?_
         refine s7 [encS rP _,.int .i64 _] rfl ?_
         rw [rst_d l c 5 (by omega) ⟨by omega,show 1≤(el ((el l).getD (Int.toNat 5) default)).length by omega⟩ (by omega)]
         simp only [cat_nil]
         rfl
        have q1:=hf 4 (by omega) (by omega)
        refine s1 (ev_lenS _ _) rfl rfl rfl ?_
        first|refine s1 (ev_subW (wrap64 (by omega) (by omega))) rfl rfl rfl ?_|refine s1 (ev_sub _ _ _) rfl rfl rfl ?_
        refine s1 (ev_eql _ _ _) rfl rfl rfl ?_
        refine s4 rfl (fun g14=>?_) fun g14=>?_
        ·refine s8 ?_
         omega
        refine s1 (ev_eql _ _ _) rfl rfl rfl ?_
        refine s4 rfl (fun g15=>?_) fun g15=>?_
        ·refine s8 ?_
         omega
        refine s1 (ev_inbsS rfl) rfl rfl rfl ?_
        refine s5 rfl (fun g16=>?_) fun g16=>?_
        ·refine s8 ?_
         omega
        refine s1 (u:=.int .i64 _) (ev_getS rfl (by omega) (by omega) rfl) rfl rfl rfl ?_
        refine s1 (ev_max _ _ _ _) rfl rfl rfl ?_
        first|refine s1 (ev_mulW (wrap64 (by omega) (by omega))) rfl rfl rfl ?_|refine s1 (ev_mul _ _ _) rfl rfl rfl ?_
        first|refine s1 (ev_subW (wrap8 (by omega) (by omega))) rfl rfl rfl ?_|refine s1 (ev_sub _ _ _) rfl rfl rfl ?_
        first|refine s1 (ev_convW (wrap64 (by omega) (by omega))) rfl rfl rfl ?_|refine s1 (ev_conv _ _ _) rfl rfl rfl ?_
        first|refine s1 (ev_addW (wrap64 (by omega) (by omega))) rfl rfl rfl ?_|refine s1 (ev_add _ _ _) rfl rfl rfl ?_
        refine s1 (ev_min _ _ _ _) rfl rfl rfl ?_
        refine s1 (ev_inbsS rfl) rfl rfl rfl ?_
        refine s5 rfl (fun g17=>?_) fun g17=>?_
        ·refine s8 ?_
         omega
        refine s2 (r:=rI) (ev_setS _ rfl (Nat.le_of_ble_eq_true rfl) (by omega) (by omega) rfl) rfl rfl ?_
        refine s2 (r:=rP) (ev_mkS [_,_,_,_,_] rfl (by decide) rfl) rfl rfl ?_
        refine s7 [encS rP _,.int .i64 _] rfl ?_
        rw [rst_d l c 4 (by omega) ⟨by omega,show 1≤(el ((el l).getD (Int.toNat 4) default)).length by omega⟩ (by omega)]
        simp only [cat_nil]
        rfl
       have q1:=hf 3 (by omega) (by omega)
       refine s1 (ev_lenS _ _) rfl rfl rfl ?_
       first|refine s1 (ev_subW (wrap64 (by omega) (by omega))) rfl rfl rfl ?_|refine s1 (ev_sub _ _ _) rfl rfl rfl ?_
       refine s1 (ev_eql _ _ _) rfl rfl rfl ?_
       refine s4 rfl (fun g12=>?_) fun g12=>?_
       ·refine s8 ?_
        omega
       refine s1 (ev_eql _ _ _) rfl rfl rfl ?_
       refine s4 rfl (fun g13=>?_) fun g13=>?_
       ·refine s8 ?_
        omega
       refine s1 (ev_inbsS rfl) rfl rfl rfl ?_
       refine s5 rfl (fun g14=>?_) fun g14=>?_
       ·refine s8 ?_
        omega
       refine s1 (u:=.int .i64 _) (ev_getS rfl (by omega) (by omega) rfl) rfl rfl rfl ?_
       refine s1 (ev_max _ _ _ _) rfl rfl rfl ?_
       first|refine s1 (ev_mulW (wrap64 (by omega) (by omega))) rfl rfl rfl ?_|refine s1 (ev_mul _ _ _) rfl rfl rfl ?_
       first|refine s1 (ev_subW (wrap8 (by omega) (by omega))) rfl rfl rfl ?_|refine s1 (ev_sub _ _ _) rfl rfl rfl ?_
       first|refine s1 (ev_convW (wrap64 (by omega) (by omega))) rfl rfl rfl ?_|refine s1 (ev_conv _ _ _) rfl rfl rfl ?_
       first|refine s1 (ev_addW (wrap64 (by omega) (by omega))) rfl rfl rfl ?_|refine s1 (ev_add _ _ _) rfl rfl rfl ?_
       refine s1 (ev_min _ _ _ _) rfl rfl rfl ?_
       refine s1 (ev_inbsS rfl) rfl rfl rfl ?_
       refine s5 rfl (fun g15=>?_) fun g15=>?_
       ·refine s8 ?_
        omega
       refine s2 (r:=rI) (ev_setS _ rfl (Nat.le_of_ble_eq_true rfl) (by omega) (by omega) rfl) rfl rfl ?_
       refine s2 (r:=rP) (ev_mkS [_,_,_,_] rfl (by decide) rfl) rfl rfl ?_
       refine s7 [encS rP _,.int .i64 _] rfl ?_
       rw [rst_d l c 3 (by omega) ⟨by omega,show 1≤(el ((el l).getD (Int.toNat 3) default)).length by omega⟩ (by omega)]
       simp only [cat_nil]
       rfl
      have q1:=hf 2 (by omega) (by omega)
      refine s1 (ev_lenS _ _) rfl rfl rfl ?_
      first|refine s1 (ev_subW (wrap64 (by omega) (by omega))) rfl rfl rfl ?_|refine s1 (ev_sub _ _ _) rfl rfl rfl ?_
      refine s1 (ev_eql _ _ _) rfl rfl rfl ?_
      refine s4 rfl (fun g10=>?_) fun g10=>?_
      ·refine s8 ?_
       omega
      refine s1 (ev_eql _ _ _) rfl rfl rfl ?_
      refine s4 rfl (fun g11=>?_) fun g11=>?_
      ·refine s8 ?_
       omega
      refine s1 (ev_inbsS rfl) rfl rfl rfl ?_
      refine s5 rfl (fun g12=>?_) fun g12=>?_
      ·refine s8 ?_
       omega
      refine s1 (u:=.int .i64 _) (ev_getS rfl (by omega) (by omega) rfl) rfl rfl rfl ?_
      refine s1 (ev_max _ _ _ _) rfl rfl rfl ?_
      first|refine s1 (ev_mulW (wrap64 (by omega) (by omega))) rfl rfl rfl ?_|refine s1 (ev_mul _ _ _) rfl rfl rfl ?_
      first|refine s1 (ev_subW (wrap8 (by omega) (by omega))) rfl rfl rfl ?_|refine s1 (ev_sub _ _ _) rfl rfl rfl ?_
      first|refine s1 (ev_convW (wrap64 (by omega) (by omega))) rfl rfl rfl ?_|refine s1 (ev_conv _ _ _) rfl rfl rfl ?_
      first|refine s1 (ev_addW (wrap64 (by omega) (by omega))) rfl rfl rfl ?_|refine s1 (ev_add _ _ _) rfl rfl rfl ?_
      refine s1 (ev_min _ _ _ _) rfl rfl rfl ?_
      refine s1 (ev_inbsS rfl) rfl rfl rfl ?_
      refine s5 rfl (fun g13=>?_) fun g13=>?_
      ·refine s8 ?_
       omega
      refine s2 (r:=rI) (ev_setS _ rfl (Nat.le_of_ble_eq_true rfl) (by omega) (by omega) rfl) rfl rfl ?_
      refine s2 (r:=rP) (ev_mkS [_,_,_] rfl (by decide) rfl) rfl rfl ?_
      refine s7 [encS rP _,.int .i64 _] rfl ?_
      rw [rst_d l c 2 (by omega) ⟨by omega,show 1≤(el ((el l).getD (Int.toNat 2) default)).length by omega⟩ (by omega)]
      simp only [cat_nil]
      rfl
     have q1:=hf 1 (by omega) (by omega)
     refine s1 (ev_lenS _ _) rfl rfl rfl ?_
     first|refine s1 (ev_subW (wrap64 (by omega) (by omega))) rfl rfl rfl ?_|refine s1 (ev_sub _ _ _) rfl rfl rfl ?_
     refine s1 (ev_eql _ _ _) rfl rfl rfl ?_
     refine s4 rfl (fun g8=>?_) fun g8=>?_
     ·refine s8 ?_
      omega
     refine s1 (ev_eql _ _ _) rfl rfl rfl ?_
     refine s4 rfl (fun g9=>?_) fun g9=>?_
     ·refine s8 ?_
      omega
     refine s1 (ev_inbsS rfl) rfl rfl rfl ?_
     refine s5 rfl (fun g10=>?_) fun g10=>?_
     ·refine s8 ?_
      omega
     refine s1 (u:=.int .i64 _) (ev_getS rfl (by omega) (by omega) rfl) rfl rfl rfl ?_
     refine s1 (ev_max _ _ _ _) rfl rfl rfl ?_
     first|refine s1 (ev_mulW (wrap64 (by omega) (by omega))) rfl rfl rfl ?_|refine s1 (ev_mul _ _ _) rfl rfl rfl ?_
     first|refine s1 (ev_subW (wrap8 (by omega) (by omega))) rfl rfl rfl ?_|refine s1 (ev_sub _ _ _) rfl rfl rfl ?_
     first|refine s1 (ev_convW (wrap64 (by omega) (by omega))) rfl rfl rfl ?_|refine s1 (ev_conv _ _ _) rfl rfl rfl ?_
     first|refine s1 (ev_addW (wrap64 (by omega) (by omega))) rfl rfl rfl ?_|refine s1 (ev_add _ _ _) rfl rfl rfl ?_
     refine s1 (ev_min _ _ _ _) rfl rfl rfl ?_
     refine s1 (ev_inbsS rfl) rfl rfl rfl ?_
     refine s5 rfl (fun g11=>?_) fun g11=>?_
     ·refine s8 ?_
      omega
     refine s2 (r:=rI) (ev_setS _ rfl (Nat.le_of_ble_eq_true rfl) (by omega) (by omega) rfl) rfl rfl ?_
     refine s2 (r:=rP) (ev_mkS [_,_] rfl (by decide) rfl) rfl rfl ?_
     refine s7 [encS rP _,.int .i64 _] rfl ?_
     rw [rst_d l c 1 (by omega) ⟨by omega,show 1≤(el ((el l).getD (Int.toNat 1) default)).length by omega⟩ (by omega)]
     simp only [cat_nil]
     rfl
    have q1:=hf 0 (by omega) (by omega)
    refine s1 (ev_lenS _ _) rfl rfl rfl ?_
    first|refine s1 (ev_subW (wrap64 (by omega) (by omega))) rfl rfl rfl ?_|refine s1 (ev_sub _ _ _) rfl rfl rfl ?_
    refine s1 (ev_eql _ _ _) rfl rfl rfl ?_
    refine s4 rfl (fun g6=>?_) fun g6=>?_
    ·refine s8 ?_
     omega
    refine s1 (ev_eql _ _ _) rfl rfl rfl ?_
    refine s4 rfl (fun g7=>?_) fun g7=>?_
    ·refine s8 ?_
     omega
    refine s1 (ev_inbsS rfl) rfl rfl rfl ?_
    refine s5 rfl (fun g8=>?_) fun g8=>?_
    ·refine s8 ?_
     omega
    refine s1 (u:=.int .i64 _) (ev_getS rfl (by omega) (by omega) rfl) rfl rfl rfl ?_
    refine s1 (ev_max _ _ _ _) rfl rfl rfl ?_
    first|refine s1 (ev_mulW (wrap64 (by omega) (by omega))) rfl rfl rfl ?_|refine s1 (ev_mul _ _ _) rfl rfl rfl ?_
    first|refine s1 (ev_subW (wrap8 (by omega) (by omega))) rfl rfl rfl ?_|refine s1 (ev_sub _ _ _) rfl rfl rfl ?_
    first|refine s1 (ev_convW (wrap64 (by omega) (by omega))) rfl rfl rfl ?_|refine s1 (ev_conv _ _ _) rfl rfl rfl ?_
    first|refine s1 (ev_addW (wrap64 (by omega) (by omega))) rfl rfl rfl ?_|refine s1 (ev_add _ _ _) rfl rfl rfl ?_
    refine s1 (ev_min _ _ _ _) rfl rfl rfl ?_
    refine s1 (ev_inbsS rfl) rfl rfl rfl ?_
    refine s5 rfl (fun g9=>?_) fun g9=>?_
    ·refine s8 ?_
     omega
    refine s2 (r:=rI) (ev_setS _ rfl (Nat.le_of_ble_eq_true rfl) (by omega) (by omega) rfl) rfl rfl ?_
    refine s2 (r:=rP) (ev_mkS [_] rfl (by decide) rfl) rfl rfl ?_
    refine s7 [encS rP _,.int .i64 _] rfl ?_
    rw [rst_d l c 0 (by omega) ⟨by omega,show 1≤(el ((el l).getD (Int.toNat 0) default)).length by omega⟩ (by omega)]
    simp only [cat_nil]
    rfl
   refine s1 (ev_eql _ _ _) rfl rfl rfl ?_
   refine s4 rfl (fun g4=>?_) fun g4=>?_
   ·refine s8 ?_
    omega
   refine s1 (ev_eql _ _ _) rfl rfl rfl ?_
   refine s4 rfl (fun g5=>?_) fun g5=>?_
   ·refine s8 ?_
    omega
   first|refine s1 (ev_subW (wrap8 (by omega) (by omega))) rfl rfl rfl ?_|refine s1 (ev_sub _ _ _) rfl rfl rfl ?_
   first|refine s1 (ev_convW (wrap64 (by omega) (by omega))) rfl rfl rfl ?_|refine s1 (ev_conv _ _ _) rfl rfl rfl ?_
   first|refine s1 (ev_addW (wrap64 (by omega) (by omega))) rfl rfl rfl ?_|refine s1 (ev_add _ _ _) rfl rfl rfl ?_
   refine s1 (ev_min _ _ _ _) rfl rfl rfl ?_
   refine s2 (r:=rI) (ev_mkS [_] rfl (by decide) rfl) rfl rfl ?_
   refine s2 (r:=rP) (ev_mkS [_] rfl (by decide) rfl) rfl rfl ?_
   refine s7 [encS rP _,.int .i64 _] rfl ?_
   exact congrArg (fun x:Rws × Int=>[encS rP x.1,.int .i64 x.2]) (rst_d0 l c (by omega) (by omega) (by omega)).symm
  ·cases hs
 ·cases hs
end Go.Proofs.YtadmkfclgpbebaaDoor
