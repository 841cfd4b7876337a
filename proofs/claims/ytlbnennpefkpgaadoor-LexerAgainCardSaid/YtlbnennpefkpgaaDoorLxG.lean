/- The functions of the program, compiled for the interpreter (printed by program). No conditions of its own. -/
import Derived.Test.YtlbnennpefkpgaaDoorChecked
import Derived.Test.YtlbnennpefkpgaaDoorAiE
import Derived.KernelRfl
set_option linter.unusedVariables false
set_option linter.unusedSimpArgs false
namespace Go.AI
open Go Go.Proofs
set_option maxRecDepth 100000
/-- reprise/repriselaw01.LexerTokens -/
def keep3 : List (Nat × List Nat) := [(0, [0]), (1, [0, 3, 4, 5]), (2, [3, 4, 5, 6, 7, 8]), (3, [2])]
def af3 : AFunc := ⟨37, 1, [.tmp 2],
  (.seq (.region [⟨(some 2), .mv (.lit (.bool false)), none, []⟩] (some [0]))
  (.seq (.region [⟨(some 10), .mv (.tmp 0), none, []⟩, ⟨(some 11), .call (.fn 14) [(.tmp 10)], none, []⟩, ⟨(some 9), .mv (.tmp 11), none, []⟩, ⟨(some 12), .extract (.tmp 9) 0, none, []⟩, ⟨(some 13), .extract (.tmp 9) 1, none, []⟩, ⟨(some 14), .extract (.tmp 9) 2, none, []⟩, ⟨(some 3), .mv (.tmp 12), none, []⟩, ⟨(some 4), .mv (.tmp 13), none, []⟩, ⟨(some 5), .mv (.tmp 14), none, []⟩] (some [0, 3, 4, 5]))
  (.seq (.region [⟨(some 16), .mv (.tmp 0), none, []⟩, ⟨(some 17), .call (.fn 15) [(.tmp 16)], none, []⟩, ⟨(some 15), .mv (.tmp 17), none, []⟩, ⟨(some 18), .extract (.tmp 15) 0, none, []⟩, ⟨(some 19), .extract (.tmp 15) 1, none, []⟩, ⟨(some 20), .extract (.tmp 15) 2, none, []⟩, ⟨(some 6), .mv (.tmp 18), none, []⟩, ⟨(some 7), .mv (.tmp 19), none, []⟩, ⟨(some 8), .mv (.tmp 20), none, []⟩] (some [3, 4, 5, 6, 7, 8]))
  (.seq (.region [⟨(some 21), .mv (.tmp 3), none, []⟩, ⟨(some 22), .mv (.tmp 6), none, []⟩, ⟨(some 23), .call (.fn 16) [(.tmp 21), (.tmp 22)], none, []⟩, ⟨(some 24), .mv (.tmp 23), none, []⟩, ⟨(some 25), .mv (.tmp 4), (some (24, true)), []⟩, ⟨(some 26), .mv (.tmp 7), (some (24, true)), []⟩, ⟨(some 27), .arith .eql .none (.tmp 25) (.tmp 26), (some (24, true)), []⟩, ⟨(some 28), .pick (.tmp 24) (.tmp 27) (.lit (.bool false)), none, []⟩, ⟨(some 29), .mv (.tmp 28), none, []⟩, ⟨(some 30), .mv (.tmp 5), (some (29, true)), []⟩, ⟨(some 31), .mv (.tmp 8), (some (29, true)), []⟩, ⟨(some 32), .arith .eql .none (.tmp 30) (.tmp 31), (some (29, true)), []⟩, ⟨(some 33), .pick (.tmp 29) (.tmp 32) (.lit (.bool false)), none, []⟩, ⟨(some 34), .mv (.tmp 33), none, []⟩, ⟨(some 35), .call (.fn 17) [], (some (34, true)), []⟩, ⟨(some 36), .pick (.tmp 34) (.tmp 35) (.lit (.bool false)), none, []⟩, ⟨(some 2), .mv (.tmp 36), none, []⟩] (some [2]))
  .ret))))⟩
theorem cf3 : cFunc Tryd.prog (fun _ => false) (keepL keep3) Tryd.f3 = some af3 := by kernel_rfl
theorem good3 : Good Tryd.prog (3, af3) := ⟨_, _, _, Tryd.func3, cf3⟩
/-- reprise/repriselaw01.LexerJoins -/
def keep4 : List (Nat × List Nat) := [(0, [0]), (1, [0, 3, 4]), (2, [3, 4, 5, 6]), (3, [2])]
def af4 : AFunc := ⟨28, 1, [.tmp 2],
  (.seq (.region [⟨(some 2), .mv (.lit (.bool false)), none, []⟩] (some [0]))
  (.seq (.region [⟨(some 8), .mv (.tmp 0), none, []⟩, ⟨(some 9), .call (.fn 18) [(.tmp 8)], none, []⟩, ⟨(some 7), .mv (.tmp 9), none, []⟩, ⟨(some 10), .extract (.tmp 7) 0, none, []⟩, ⟨(some 11), .extract (.tmp 7) 1, none, []⟩, ⟨(some 3), .mv (.tmp 10), none, []⟩, ⟨(some 4), .mv (.tmp 11), none, []⟩] (some [0, 3, 4]))
  (.seq (.region [⟨(some 13), .mv (.tmp 0), none, []⟩, ⟨(some 14), .call (.fn 19) [(.tmp 13)], none, []⟩, ⟨(some 12), .mv (.tmp 14), none, []⟩, ⟨(some 15), .extract (.tmp 12) 0, none, []⟩, ⟨(some 16), .extract (.tmp 12) 1, none, []⟩, ⟨(some 5), .mv (.tmp 15), none, []⟩, ⟨(some 6), .mv (.tmp 16), none, []⟩] (some [3, 4, 5, 6]))
  (.seq (.region [⟨(some 17), .mv (.tmp 3), none, []⟩, ⟨(some 18), .mv (.tmp 5), none, []⟩, ⟨(some 19), .arith .eql .none (.tmp 17) (.tmp 18), none, []⟩, ⟨(some 20), .mv (.tmp 19), none, []⟩, ⟨(some 21), .mv (.tmp 4), (some (20, true)), []⟩, ⟨(some 22), .mv (.tmp 6), (some (20, true)), []⟩, ⟨(some 23), .arith .eql .none (.tmp 21) (.tmp 22), (some (20, true)), []⟩, ⟨(some 24), .pick (.tmp 20) (.tmp 23) (.lit (.bool false)), none, []⟩, ⟨(some 25), .mv (.tmp 24), none, []⟩, ⟨(some 26), .call (.fn 17) [], (some (25, true)), []⟩, ⟨(some 27), .pick (.tmp 25) (.tmp 26) (.lit (.bool false)), none, []⟩, ⟨(some 2), .mv (.tmp 27), none, []⟩] (some [2]))
  .ret))))⟩
theorem cf4 : cFunc Tryd.prog (fun _ => false) (keepL keep4) Tryd.f4 = some af4 := by kernel_rfl
theorem good4 : Good Tryd.prog (4, af4) := ⟨_, _, _, Tryd.func4, cf4⟩
/-- reprise/repriselaw01.LexerPlaces -/
def keep5 : List (Nat × List Nat) := [(0, [0, 1]), (1, [0, 1, 5, 6, 7]), (2, [5, 6, 7, 8, 9, 10]), (3, [4])]
def af5 : AFunc := ⟨41, 2, [.tmp 4],
  (.seq (.region [⟨(some 4), .mv (.lit (.bool false)), none, []⟩] (some [0, 1]))
  (.seq (.region [⟨(some 12), .mv (.tmp 0), none, []⟩, ⟨(some 13), .mv (.tmp 1), none, []⟩, ⟨(some 14), .call (.fn 20) [(.tmp 12), (.tmp 13)], none, []⟩, ⟨(some 11), .mv (.tmp 14), none, []⟩, ⟨(some 15), .extract (.tmp 11) 0, none, []⟩, ⟨(some 16), .extract (.tmp 11) 1, none, []⟩, ⟨(some 17), .extract (.tmp 11) 2, none, []⟩, ⟨(some 5), .mv (.tmp 15), none, []⟩, ⟨(some 6), .mv (.tmp 16), none, []⟩, ⟨(some 7), .mv (.tmp 17), none, []⟩] (some [0, 1, 5, 6, 7]))
  (.seq (.region [⟨(some 19), .mv (.tmp 0), none, []⟩, ⟨(some 20), .mv (.tmp 1), none, []⟩, ⟨(some 21), .call (.fn 21) [(.tmp 19), (.tmp 20)], none, []⟩, ⟨(some 18), .mv (.tmp 21), none, []⟩, ⟨(some 22), .extract (.tmp 18) 0, none, []⟩, ⟨(some 23), .extract (.tmp 18) 1, none, []⟩, ⟨(some 24), .extract (.tmp 18) 2, none, []⟩, ⟨(some 8), .mv (.tmp 22), none, []⟩, ⟨(some 9), .mv (.tmp 23), none, []⟩, ⟨(some 10), .mv (.tmp 24), none, []⟩] (some [5, 6, 7, 8, 9, 10]))
  (.seq (.region [⟨(some 25), .mv (.tmp 5), none, []⟩, ⟨(some 26), .mv (.tmp 8), none, []⟩, ⟨(some 27), .arith .eql .none (.tmp 25) (.tmp 26), none, []⟩, ⟨(some 28), .mv (.tmp 27), none, []⟩, ⟨(some 29), .mv (.tmp 6), (some (28, true)), []⟩, ⟨(some 30), .mv (.tmp 9), (some (28, true)), []⟩, ⟨(some 31), .arith .eql .none (.tmp 29) (.tmp 30), (some (28, true)), []⟩, ⟨(some 32), .pick (.tmp 28) (.tmp 31) (.lit (.bool false)), none, []⟩, ⟨(some 33), .mv (.tmp 32), none, []⟩, ⟨(some 34), .mv (.tmp 7), (some (33, true)), []⟩, ⟨(some 35), .mv (.tmp 10), (some (33, true)), []⟩, ⟨(some 36), .arith .eql .none (.tmp 34) (.tmp 35), (some (33, true)), []⟩, ⟨(some 37), .pick (.tmp 33) (.tmp 36) (.lit (.bool false)), none, []⟩, ⟨(some 38), .mv (.tmp 37), none, []⟩, ⟨(some 39), .call (.fn 17) [], (some (38, true)), []⟩, ⟨(some 40), .pick (.tmp 38) (.tmp 39) (.lit (.bool false)), none, []⟩, ⟨(some 4), .mv (.tmp 40), none, []⟩] (some [4]))
  .ret))))⟩
theorem cf5 : cFunc Tryd.prog (fun _ => false) (keepL keep5) Tryd.f5 = some af5 := by kernel_rfl
theorem good5 : Good Tryd.prog (5, af5) := ⟨_, _, _, Tryd.func5, cf5⟩
/-- reprise/repriselaw01.LexerNumbers -/
def keep6 : List (Nat × List Nat) := [(0, [0]), (1, [2])]
def af6 : AFunc := ⟨18, 1, [.tmp 2],
  (.seq (.region [⟨(some 2), .mv (.lit (.bool false)), none, []⟩] (some [0]))
  (.seq (.region [⟨(some 3), .mv (.tmp 0), none, []⟩, ⟨(some 4), .call (.fn 22) [(.tmp 3)], none, []⟩, ⟨(some 5), .mv (.tmp 0), none, []⟩, ⟨(some 6), .call (.fn 23) [(.tmp 5)], none, []⟩, ⟨(some 7), .arith .eql .none (.tmp 4) (.tmp 6), none, []⟩, ⟨(some 8), .mv (.tmp 7), none, []⟩, ⟨(some 9), .mv (.tmp 0), (some (8, true)), []⟩, ⟨(some 10), .call (.fn 24) [(.tmp 9)], (some (8, true)), []⟩, ⟨(some 11), .mv (.tmp 0), (some (8, true)), []⟩, ⟨(some 12), .call (.fn 25) [(.tmp 11)], (some (8, true)), []⟩, ⟨(some 13), .arith .eql .none (.tmp 10) (.tmp 12), (some (8, true)), []⟩, ⟨(some 14), .pick (.tmp 8) (.tmp 13) (.lit (.bool false)), none, []⟩, ⟨(some 15), .mv (.tmp 14), none, []⟩, ⟨(some 16), .call (.fn 17) [], (some (15, true)), []⟩, ⟨(some 17), .pick (.tmp 15) (.tmp 16) (.lit (.bool false)), none, []⟩, ⟨(some 2), .mv (.tmp 17), none, []⟩] (some [2]))
  .ret))⟩
theorem cf6 : cFunc Tryd.prog (fun _ => false) (keepL keep6) Tryd.f6 = some af6 := by kernel_rfl
theorem good6 : Good Tryd.prog (6, af6) := ⟨_, _, _, Tryd.func6, cf6⟩
/-- reprise/repriselaw01.LexerNames -/
def keep7 : List (Nat × List Nat) := [(0, [0]), (1, [2])]
def af7 : AFunc := ⟨26, 1, [.tmp 2],
  (.seq (.region [⟨(some 2), .mv (.lit (.bool false)), none, []⟩] (some [0]))
  (.seq (.region [⟨(some 3), .mv (.tmp 0), none, []⟩, ⟨(some 4), .call (.fn 26) [(.tmp 3)], none, []⟩, ⟨(some 5), .mv (.tmp 0), none, []⟩, ⟨(some 6), .call (.fn 27) [(.tmp 5)], none, []⟩, ⟨(some 7), .arith .eql .bool (.tmp 4) (.tmp 6), none, []⟩, ⟨(some 8), .mv (.tmp 7), none, []⟩, ⟨(some 9), .mv (.tmp 0), (some (8, true)), []⟩, ⟨(some 10), .call (.fn 28) [(.tmp 9)], (some (8, true)), []⟩, ⟨(some 11), .mv (.tmp 0), (some (8, true)), []⟩, ⟨(some 12), .call (.fn 29) [(.tmp 11)], (some (8, true)), []⟩, ⟨(some 13), .arith .eql .bool (.tmp 10) (.tmp 12), (some (8, true)), []⟩, ⟨(some 14), .pick (.tmp 8) (.tmp 13) (.lit (.bool false)), none, []⟩, ⟨(some 15), .mv (.tmp 14), none, []⟩, ⟨(some 16), .mv (.tmp 0), (some (15, true)), []⟩, ⟨(some 17), .call (.fn 30) [(.tmp 16)], (some (15, true)), []⟩, ⟨(some 18), .call (.fn 32) [], (some (15, true)), []⟩, ⟨(some 19), .mv (.tmp 0), (some (15, true)), []⟩, ⟨(some 20), .call (.fn 31) [(.tmp 18), (.tmp 19)], (some (15, true)), []⟩, ⟨(some 21), .arith .eql .bool (.tmp 17) (.tmp 20), (some (15, true)), []⟩, ⟨(some 22), .pick (.tmp 15) (.tmp 21) (.lit (.bool false)), none, []⟩, ⟨(some 23), .mv (.tmp 22), none, []⟩, ⟨(some 24), .call (.fn 17) [], (some (23, true)), []⟩, ⟨(some 25), .pick (.tmp 23) (.tmp 24) (.lit (.bool false)), none, []⟩, ⟨(some 2), .mv (.tmp 25), none, []⟩] (some [2]))
  .ret))⟩
theorem cf7 : cFunc Tryd.prog (fun _ => false) (keepL keep7) Tryd.f7 = some af7 := by kernel_rfl
theorem good7 : Good Tryd.prog (7, af7) := ⟨_, _, _, Tryd.func7, cf7⟩
/-- reprise/repriselaw01.LexerKnown -/
def keep8 : List (Nat × List Nat) := [(0, []), (1, [1, 2, 3]), (2, [1, 2, 3, 4, 6]), (3, [1, 2, 3, 4, 6, 7, 8, 9]), (4, [1, 2, 3, 4, 6, 7, 8, 9, 11]), (5, [1, 2, 3, 4, 6, 7, 8, 9, 11, 13]), (6, [1, 2, 3, 4, 6, 7, 8, 9, 11, 13, 14]), (7, [1, 2, 3, 4, 6, 7, 8, 9, 11, 13, 14, 15]), (8, [1, 2, 3, 4, 6, 7, 8, 9, 11, 13, 14, 15, 51]), (10, [1, 2, 3, 4, 6, 7, 8, 9, 11, 13, 14, 15, 16, 17, 18]), (11, [1, 2, 3, 4, 6, 7, 8, 9, 11, 13, 14, 15, 73]), (12, [0]), (9, [1, 2, 3, 4, 6, 7, 8, 9, 11, 13, 14, 15]), (13, [1, 2, 3, 4, 6, 7, 8, 9, 11, 13, 19]), (14, [0])]
def lp8_0 : ACode :=
  (.seq (.seq (.region [⟨(some 48), .mv (.tmp 15), none, []⟩, ⟨(some 49), .mv (.tmp 14), none, []⟩, ⟨(some 50), .len false (.tmp 49), none, []⟩, ⟨(some 51), .arith .lss .none (.tmp 48) (.tmp 50), none, []⟩] (some [1, 2, 3, 4, 6, 7, 8, 9, 11, 13, 14, 15, 51]))
  (.cond (.tmp 51) .skip
  (.exit 0)))
  (.seq (.block 1 (.seq (.region [⟨(some 55), .mv (.tmp 14), none, []⟩, ⟨(some 56), .mv (.tmp 15), none, []⟩, ⟨(some 57), .indexAddrS 1 (.tmp 55) (.tmp 56), none, []⟩, ⟨(some 58), .load false 1 (.tmp 57), none, []⟩, ⟨(some 59), .call (.fn 14) [(.tmp 58)], none, []⟩, ⟨(some 54), .mv (.tmp 59), none, []⟩, ⟨(some 60), .extract (.tmp 54) 0, none, []⟩, ⟨(some 61), .extract (.tmp 54) 1, none, []⟩, ⟨(some 62), .extract (.tmp 54) 2, none, []⟩, ⟨(some 16), .mv (.tmp 60), none, []⟩, ⟨(some 17), .mv (.tmp 61), none, []⟩, ⟨(some 18), .mv (.tmp 62), none, []⟩] (some [1, 2, 3, 4, 6, 7, 8, 9, 11, 13, 14, 15, 16, 17, 18]))
  (.seq (.region [⟨(some 63), .mv (.tmp 16), none, []⟩, ⟨(some 64), .len false (.tmp 63), none, []⟩, ⟨(some 65), .arith .gtr .none (.tmp 64) (.lit (.int .i64 0)), none, []⟩, ⟨(some 66), .mv (.tmp 65), none, []⟩, ⟨(some 67), .mv (.tmp 17), (some (66, false)), []⟩, ⟨(some 68), .arith .neq .none (.tmp 67) (.lit (.int .i64 2)), (some (66, false)), []⟩, ⟨(some 69), .pick (.tmp 66) (.lit (.bool true)) (.tmp 68), none, []⟩, ⟨(some 70), .mv (.tmp 69), none, []⟩, ⟨(some 71), .mv (.tmp 18), (some (70, false)), []⟩, ⟨(some 72), .arith .neq .none (.tmp 71) (.lit (.int .i64 2)), (some (70, false)), []⟩, ⟨(some 73), .pick (.tmp 70) (.lit (.bool true)) (.tmp 72), none, []⟩] (some [1, 2, 3, 4, 6, 7, 8, 9, 11, 13, 14, 15, 73]))
  (.cond (.tmp 73) (.seq (.region [⟨(some 0), .mv (.lit (.bool false)), none, []⟩] (some [0]))
  .ret)
  .skip))))
  (.region [⟨(some 52), .mv (.tmp 15), none, []⟩, ⟨(some 53), .arith .add .none (.tmp 52) (.lit (.int .i64 1)), none, []⟩, ⟨(some 15), .mv (.tmp 53), none, []⟩] (some [1, 2, 3, 4, 6, 7, 8, 9, 11, 13, 14, 15]))))
def af8 : AFunc := ⟨129, 0, [.tmp 0],
  (.seq (.region [⟨(some 0), .mv (.lit (.bool false)), none, []⟩] (some []))
  (.seq (.region [⟨(some 21), .call (.fn 14) [(.lit (.str [35]))], none, []⟩, ⟨(some 20), .mv (.tmp 21), none, []⟩, ⟨(some 22), .extract (.tmp 20) 0, none, []⟩, ⟨(some 23), .extract (.tmp 20) 1, none, []⟩, ⟨(some 24), .extract (.tmp 20) 2, none, []⟩, ⟨(some 1), .mv (.tmp 22), none, []⟩, ⟨(some 2), .mv (.tmp 23), none, []⟩, ⟨(some 3), .mv (.tmp 24), none, []⟩] (some [1, 2, 3]))
  (.seq (.region [⟨(some 26), .call (.fn 14) [(.lit (.str [97, 32, 45, 62, 98]))], none, []⟩, ⟨(some 25), .mv (.tmp 26), none, []⟩, ⟨(some 27), .extract (.tmp 25) 0, none, []⟩, ⟨(some 28), .extract (.tmp 25) 1, none, []⟩, ⟨(some 29), .extract (.tmp 25) 2, none, []⟩, ⟨(some 4), .mv (.tmp 27), none, []⟩, ⟨(some 5), .mv (.tmp 28), none, []⟩, ⟨(some 6), .mv (.tmp 29), none, []⟩] (some [1, 2, 3, 4, 6]))
  (.seq (.region [⟨(some 31), .call (.fn 20) [(.lit (.str [97, 98, 10, 99])), (.lit (.int .i64 2))], none, []⟩, ⟨(some 30), .mv (.tmp 31), none, []⟩, ⟨(some 32), .extract (.tmp 30) 0, none, []⟩, ⟨(some 33), .extract (.tmp 30) 1, none, []⟩, ⟨(some 34), .extract (.tmp 30) 2, none, []⟩, ⟨(some 7), .mv (.tmp 32), none, []⟩, ⟨(some 8), .mv (.tmp 33), none, []⟩, ⟨(some 9), .mv (.tmp 34), none, []⟩] (some [1, 2, 3, 4, 6, 7, 8, 9]))
  (.seq (.region [⟨(some 36), .build [(.int .i64 0), (.str []), (.int .i64 0), (.int .i64 0)] [(0, 1, (.lit (.int .i64 3))), (2, 1, (.lit (.int .i64 1000000000)))], none, []⟩, ⟨(some 37), .buildSlice 4 1 [(.int .i64 0), (.str []), (.int .i64 0), (.int .i64 0)] [(0, (.tmp 36))], none, []⟩, ⟨(some 38), .call (.fn 18) [(.tmp 37)], none, []⟩, ⟨(some 35), .mv (.tmp 38), none, []⟩, ⟨(some 39), .extract (.tmp 35) 0, none, []⟩, ⟨(some 40), .extract (.tmp 35) 1, none, []⟩, ⟨(some 10), .mv (.tmp 39), none, []⟩, ⟨(some 11), .mv (.tmp 40), none, []⟩] (some [1, 2, 3, 4, 6, 7, 8, 9, 11]))
  (.seq (.region [⟨(some 42), .build [(.int .i64 0), (.str []), (.int .i64 0), (.int .i64 0)] [(0, 1, (.lit (.int .i64 3))), (2, 1, (.lit (.int .i64 1))), (1, 1, (.lit (.str [49])))], none, []⟩, ⟨(some 43), .buildSlice 4 1 [(.int .i64 0), (.str []), (.int .i64 0), (.int .i64 0)] [(0, (.tmp 42))], none, []⟩, ⟨(some 44), .call (.fn 18) [(.tmp 43)], none, []⟩, ⟨(some 41), .mv (.tmp 44), none, []⟩, ⟨(some 45), .extract (.tmp 41) 0, none, []⟩, ⟨(some 46), .extract (.tmp 41) 1, none, []⟩, ⟨(some 12), .mv (.tmp 45), none, []⟩, ⟨(some 13), .mv (.tmp 46), none, []⟩] (some [1, 2, 3, 4, 6, 7, 8, 9, 11, 13]))
  (.seq (.region [⟨(some 47), .buildSlice 1 5 [(.str [])] [(0, (.lit (.str [120, 32, 49, 97]))), (1, (.lit (.str [120, 32, 48, 49]))), (2, (.lit (.str [120, 32, 36]))), (3, (.lit (.str [120, 32, 49, 48, 48, 48, 48, 48, 48, 48, 48, 48]))), (4, (.lit (.str [120, 32, 97, 98, 99, 100, 101, 102, 103, 104, 105, 106, 107, 108, 109])))], none, []⟩, ⟨(some 14), .mv (.tmp 47), none, []⟩] (some [1, 2, 3, 4, 6, 7, 8, 9, 11, 13, 14]))
  (.seq (.seq (.region [⟨(some 15), .mv (.lit (.int .i64 0)), none, []⟩] (some [1, 2, 3, 4, 6, 7, 8, 9, 11, 13, 14, 15]))
  (.block 0 (.loop lp8_0)))
  (.seq (.region [⟨(some 74), .build [(.int .i64 0), (.str []), (.int .i64 0), (.int .i64 0)] [(0, 1, (.lit (.int .i64 0))), (1, 1, (.lit (.str [97])))], none, []⟩, ⟨(some 75), .build [(.int .i64 0), (.str []), (.int .i64 0), (.int .i64 0)] [(0, 1, (.lit (.int .i64 4))), (1, 1, (.lit (.str [45, 62]))), (3, 1, (.lit (.int .i64 2)))], none, []⟩, ⟨(some 76), .build [(.int .i64 0), (.str []), (.int .i64 0), (.int .i64 0)] [(0, 1, (.lit (.int .i64 0))), (1, 1, (.lit (.str [98]))), (3, 1, (.lit (.int .i64 4)))], none, []⟩, ⟨(some 77), .buildSlice 4 3 [(.int .i64 0), (.str []), (.int .i64 0), (.int .i64 0)] [(0, (.tmp 74)), (1, (.tmp 75)), (2, (.tmp 76))], none, []⟩, ⟨(some 19), .mv (.tmp 77), none, []⟩] (some [1, 2, 3, 4, 6, 7, 8, 9, 11, 13, 19]))
  (.seq (.region [⟨(some 78), .mv (.tmp 3), none, []⟩, ⟨(some 79), .arith .eql .none (.tmp 78) (.lit (.int .i64 0)), none, []⟩, ⟨(some 80), .mv (.tmp 79), none, []⟩, ⟨(some 81), .mv (.tmp 6), (some (80, true)), []⟩, ⟨(some 82), .arith .eql .none (.tmp 81) (.lit (.int .i64 0)), (some (80, true)), []⟩, ⟨(some 83), .pick (.tmp 80) (.tmp 82) (.lit (.bool false)), none, []⟩, ⟨(some 84), .mv (.tmp 83), none, []⟩, ⟨(some 85), .mv (.tmp 9), (some (84, true)), []⟩, ⟨(some 86), .arith .eql .none (.tmp 85) (.lit (.int .i64 0)), (some (84, true)), []⟩, ⟨(some 87), .pick (.tmp 84) (.tmp 86) (.lit (.bool false)), none, []⟩, ⟨(some 88), .mv (.tmp 87), none, []⟩, ⟨(some 89), .mv (.tmp 11), (some (88, true)), []⟩, ⟨(some 90), .arith .eql .none (.tmp 89) (.lit (.int .i64 1)), (some (88, true)), []⟩, ⟨(some 91), .pick (.tmp 88) (.tmp 90) (.lit (.bool false)), none, []⟩, ⟨(some 92), .mv (.tmp 91), none, []⟩, ⟨(some 93), .mv (.tmp 13), (some (92, true)), []⟩, ⟨(some 94), .arith .eql .none (.tmp 93) (.lit (.int .i64 1)), (some (92, true)), []⟩, ⟨(some 95), .pick (.tmp 92) (.tmp 94) (.lit (.bool false)), none, []⟩, ⟨(some 96), .mv (.tmp 95), none, []⟩, ⟨(some 97), .mv (.tmp 1), (some (96, true)), []⟩, ⟨(some 98), .len false (.tmp 97), (some (96, true)), []⟩, ⟨(some 99), .arith .eql .none (.tmp 98) (.lit (.int .i64 0)), (some (96, true)), []⟩, ⟨(some 100), .pick (.tmp 96) (.tmp 99) (.lit (.bool false)), none, []⟩, ⟨(some 101), .mv (.tmp 100), none, []⟩, ⟨(some 102), .mv (.tmp 2), (some (101, true)), []⟩, ⟨(some 103), .arith .eql .none (.tmp 102) (.lit (.int .i64 0)), (some (101, true)), []⟩, ⟨(some 104), .pick (.tmp 101) (.tmp 103) (.lit (.bool false)), none, []⟩, ⟨(some 105), .mv (.tmp 104), none, []⟩, ⟨(some 106), .mv (.tmp 4), (some (105, true)), []⟩, ⟨(some 107), .mv (.tmp 19), (some (105, true)), []⟩, ⟨(some 108), .call (.fn 16) [(.tmp 106), (.tmp 107)], (some (105, true)), []⟩, ⟨(some 109), .pick (.tmp 105) (.tmp 108) (.lit (.bool false)), none, []⟩, ⟨(some 110), .mv (.tmp 109), none, []⟩, ⟨(some 111), .mv (.tmp 7), (some (110, true)), []⟩, ⟨(some 112), .arith .eql .none (.tmp 111) (.lit (.int .i64 1)), (some (110, true)), []⟩, ⟨(some 113), .pick (.tmp 110) (.tmp 112) (.lit (.bool false)), none, []⟩, ⟨(some 114), .mv (.tmp 113), none, []⟩, ⟨(some 115), .mv (.tmp 8), (some (114, true)), []⟩, ⟨(some 116), .arith .eql .none (.tmp 115) (.lit (.int .i64 3)), (some (114, true)), []⟩, ⟨(some 117), .pick (.tmp 114) (.tmp 116) (.lit (.bool false)), none, []⟩, ⟨(some 118), .mv (.tmp 117), none, []⟩, ⟨(some 119), .call (.fn 22) [(.lit (.int .i64 1999999998))], (some (118, true)), []⟩, ⟨(some 120), .arith .eql .none (.tmp 119) (.lit (.int .i64 (-1))), (some (118, true)), []⟩, ⟨(some 121), .pick (.tmp 118) (.tmp 120) (.lit (.bool false)), none, []⟩, ⟨(some 122), .mv (.tmp 121), none, []⟩, ⟨(some 123), .call (.fn 24) [(.lit (.int .i64 0))], (some (122, true)), []⟩, ⟨(some 124), .arith .eql .none (.tmp 123) (.lit (.str [48])), (some (122, true)), []⟩, ⟨(some 125), .pick (.tmp 122) (.tmp 124) (.lit (.bool false)), none, []⟩, ⟨(some 126), .mv (.tmp 125), none, []⟩, ⟨(some 127), .call (.fn 17) [], (some (126, true)), []⟩, ⟨(some 128), .pick (.tmp 126) (.tmp 127) (.lit (.bool false)), none, []⟩, ⟨(some 0), .mv (.tmp 128), none, []⟩] (some [0]))
  .ret))))))))))⟩
theorem cf8 : cFunc Tryd.prog (fun _ => false) (keepL keep8) Tryd.f8 = some af8 := by kernel_rfl
theorem good8 : Good Tryd.prog (8, af8) := ⟨_, _, _, Tryd.func8, cf8⟩
/-- reprise/repriselaw01.LexerAgain -/
def keep9 : List (Nat × List Nat) := [(0, [0, 1]), (1, [0, 1, 5, 6]), (2, [0, 1, 5, 24]), (3, [0, 1, 5, 7, 8, 9]), (4, [1, 47]), (5, [4]), (6, [1, 10, 11, 12]), (7, [1, 10, 11, 12, 55]), (8, [4]), (9, [1, 10, 13, 14]), (10, [1, 10, 13, 14, 87]), (11, [4]), (12, [10, 14, 15, 17]), (13, [4])]
def af9 : AFunc := ⟨115, 2, [.tmp 4],
  (.seq (.region [⟨(some 4), .mv (.lit (.bool false)), none, []⟩] (some [0, 1]))
  (.seq (.region [⟨(some 19), .mv (.tmp 0), none, []⟩, ⟨(some 20), .call (.fn 18) [(.tmp 19)], none, []⟩, ⟨(some 18), .mv (.tmp 20), none, []⟩, ⟨(some 21), .extract (.tmp 18) 0, none, []⟩, ⟨(some 22), .extract (.tmp 18) 1, none, []⟩, ⟨(some 5), .mv (.tmp 21), none, []⟩, ⟨(some 6), .mv (.tmp 22), none, []⟩] (some [0, 1, 5, 6]))
  (.seq (.seq (.region [⟨(some 23), .mv (.tmp 6), none, []⟩, ⟨(some 24), .arith .eql .none (.tmp 23) (.lit (.int .i64 0)), none, []⟩] (some [0, 1, 5, 24]))
  (.cond (.tmp 24) (.seq (.region [⟨(some 26), .mv (.tmp 5), none, []⟩, ⟨(some 27), .call (.fn 14) [(.tmp 26)], none, []⟩, ⟨(some 25), .mv (.tmp 27), none, []⟩, ⟨(some 28), .extract (.tmp 25) 0, none, []⟩, ⟨(some 29), .extract (.tmp 25) 1, none, []⟩, ⟨(some 30), .extract (.tmp 25) 2, none, []⟩, ⟨(some 7), .mv (.tmp 28), none, []⟩, ⟨(some 8), .mv (.tmp 29), none, []⟩, ⟨(some 9), .mv (.tmp 30), none, []⟩] (some [0, 1, 5, 7, 8, 9]))
  (.seq (.region [⟨(some 31), .mv (.tmp 9), none, []⟩, ⟨(some 32), .arith .neq .none (.tmp 31) (.lit (.int .i64 0)), none, []⟩, ⟨(some 33), .mv (.tmp 32), none, []⟩, ⟨(some 34), .mv (.tmp 8), (some (33, false)), []⟩, ⟨(some 35), .arith .neq .none (.tmp 34) (.lit (.int .i64 0)), (some (33, false)), []⟩, ⟨(some 36), .pick (.tmp 33) (.lit (.bool true)) (.tmp 35), none, []⟩, ⟨(some 37), .mv (.tmp 36), none, []⟩, ⟨(some 38), .mv (.tmp 0), (some (37, false)), []⟩, ⟨(some 39), .mv (.tmp 7), (some (37, false)), []⟩, ⟨(some 40), .call (.fn 33) [(.tmp 38), (.tmp 39)], (some (37, false)), []⟩, ⟨(some 41), .not (.tmp 40), (some (37, false)), []⟩, ⟨(some 42), .pick (.tmp 37) (.lit (.bool true)) (.tmp 41), none, []⟩, ⟨(some 43), .mv (.tmp 42), none, []⟩, ⟨(some 44), .mv (.tmp 5), (some (43, false)), []⟩, ⟨(some 45), .len true (.tmp 44), (some (43, false)), []⟩, ⟨(some 46), .arith .gtr .none (.tmp 45) (.lit (.int .i64 30000)), (some (43, false)), []⟩, ⟨(some 47), .pick (.tmp 43) (.lit (.bool true)) (.tmp 46), none, []⟩] (some [1, 47]))
  (.cond (.tmp 47) (.seq (.region [⟨(some 4), .mv (.lit (.bool false)), none, []⟩] (some [4]))
  .ret)
  .skip)))
  .skip))
  (.seq (.region [⟨(some 49), .mv (.tmp 1), none, []⟩, ⟨(some 50), .call (.fn 14) [(.tmp 49)], none, []⟩, ⟨(some 48), .mv (.tmp 50), none, []⟩, ⟨(some 51), .extract (.tmp 48) 0, none, []⟩, ⟨(some 52), .extract (.tmp 48) 1, none, []⟩, ⟨(some 53), .extract (.tmp 48) 2, none, []⟩, ⟨(some 10), .mv (.tmp 51), none, []⟩, ⟨(some 11), .mv (.tmp 52), none, []⟩, ⟨(some 12), .mv (.tmp 53), none, []⟩] (some [1, 10, 11, 12]))
  (.seq (.seq (.region [⟨(some 54), .mv (.tmp 12), none, []⟩, ⟨(some 55), .arith .neq .none (.tmp 54) (.lit (.int .i64 0)), none, []⟩] (some [1, 10, 11, 12, 55]))
  (.cond (.tmp 55) (.seq (.region [⟨(some 56), .mv (.tmp 10), none, []⟩, ⟨(some 57), .len false (.tmp 56), none, []⟩, ⟨(some 58), .arith .eql .none (.tmp 57) (.lit (.int .i64 0)), none, []⟩, ⟨(some 59), .mv (.tmp 58), none, []⟩, ⟨(some 60), .mv (.tmp 12), (some (59, true)), []⟩, ⟨(some 61), .arith .eql .none (.tmp 60) (.lit (.int .i64 2)), (some (59, true)), []⟩, ⟨(some 62), .mv (.tmp 61), (some (59, true)), []⟩, ⟨(some 63), .mv (.tmp 11), (some (62, true)), []⟩, ⟨(some 64), .mv (.tmp 1), (some (62, true)), []⟩, ⟨(some 65), .len true (.tmp 64), (some (62, true)), []⟩, ⟨(some 66), .arith .sub .none (.tmp 65) (.lit (.int .i64 1)), (some (62, true)), []⟩, ⟨(some 67), .call (.fn 34) [(.tmp 63), (.lit (.int .i64 0)), (.tmp 66)], (some (62, true)), []⟩, ⟨(some 68), .pick (.tmp 62) (.tmp 67) (.lit (.bool false)), (some (59, true)), []⟩, ⟨(some 69), .mv (.tmp 68), (some (59, true)), []⟩, ⟨(some 70), .mv (.tmp 12), (some (69, false)), []⟩, ⟨(some 71), .arith .eql .none (.tmp 70) (.lit (.int .i64 3)), (some (69, false)), []⟩, ⟨(some 72), .mv (.tmp 71), (some (69, false)), []⟩, ⟨(some 73), .mv (.tmp 11), (some (72, true)), []⟩, ⟨(some 74), .arith .eql .none (.tmp 73) (.lit (.int .i64 0)), (some (72, true)), []⟩, ⟨(some 75), .pick (.tmp 72) (.tmp 74) (.lit (.bool false)), (some (69, false)), []⟩, ⟨(some 76), .pick (.tmp 69) (.lit (.bool true)) (.tmp 75), (some (59, true)), []⟩, ⟨(some 77), .pick (.tmp 59) (.tmp 76) (.lit (.bool false)), none, []⟩, ⟨(some 78), .mv (.tmp 77), none, []⟩, ⟨(some 79), .call (.fn 17) [], (some (78, true)), []⟩, ⟨(some 80), .pick (.tmp 78) (.tmp 79) (.lit (.bool false)), none, []⟩, ⟨(some 4), .mv (.tmp 80), none, []⟩] (some [4]))
  .ret)
  .skip))
  (.seq (.region [⟨(some 82), .mv (.tmp 10), none, []⟩, ⟨(some 83), .call (.fn 18) [(.tmp 82)], none, []⟩, ⟨(some 81), .mv (.tmp 83), none, []⟩, ⟨(some 84), .extract (.tmp 81) 0, none, []⟩, ⟨(some 85), .extract (.tmp 81) 1, none, []⟩, ⟨(some 13), .mv (.tmp 84), none, []⟩, ⟨(some 14), .mv (.tmp 85), none, []⟩] (some [1, 10, 13, 14]))
  (.seq (.seq (.region [⟨(some 86), .mv (.tmp 14), none, []⟩, ⟨(some 87), .arith .eql .none (.tmp 86) (.lit (.int .i64 3)), none, []⟩] (some [1, 10, 13, 14, 87]))
  (.cond (.tmp 87) (.seq (.region [⟨(some 88), .mv (.tmp 1), none, []⟩, ⟨(some 89), .len true (.tmp 88), none, []⟩, ⟨(some 90), .arith .mul .none (.lit (.int .i64 2)) (.tmp 89), none, []⟩, ⟨(some 91), .arith .gtr .none (.tmp 90) (.lit (.int .i64 30000)), none, []⟩, ⟨(some 92), .mv (.tmp 91), none, []⟩, ⟨(some 93), .call (.fn 17) [], (some (92, true)), []⟩, ⟨(some 94), .pick (.tmp 92) (.tmp 93) (.lit (.bool false)), none, []⟩, ⟨(some 4), .mv (.tmp 94), none, []⟩] (some [4]))
  .ret)
  .skip))
  (.seq (.region [⟨(some 96), .mv (.tmp 13), none, []⟩, ⟨(some 97), .call (.fn 14) [(.tmp 96)], none, []⟩, ⟨(some 95), .mv (.tmp 97), none, []⟩, ⟨(some 98), .extract (.tmp 95) 0, none, []⟩, ⟨(some 99), .extract (.tmp 95) 1, none, []⟩, ⟨(some 100), .extract (.tmp 95) 2, none, []⟩, ⟨(some 15), .mv (.tmp 98), none, []⟩, ⟨(some 16), .mv (.tmp 99), none, []⟩, ⟨(some 17), .mv (.tmp 100), none, []⟩] (some [10, 14, 15, 17]))
  (.seq (.region [⟨(some 101), .mv (.tmp 14), none, []⟩, ⟨(some 102), .arith .eql .none (.tmp 101) (.lit (.int .i64 0)), none, []⟩, ⟨(some 103), .mv (.tmp 102), none, []⟩, ⟨(some 104), .mv (.tmp 17), (some (103, true)), []⟩, ⟨(some 105), .arith .eql .none (.tmp 104) (.lit (.int .i64 0)), (some (103, true)), []⟩, ⟨(some 106), .pick (.tmp 103) (.tmp 105) (.lit (.bool false)), none, []⟩, ⟨(some 107), .mv (.tmp 106), none, []⟩, ⟨(some 108), .mv (.tmp 10), (some (107, true)), []⟩, ⟨(some 109), .mv (.tmp 15), (some (107, true)), []⟩, ⟨(some 110), .call (.fn 33) [(.tmp 108), (.tmp 109)], (some (107, true)), []⟩, ⟨(some 111), .pick (.tmp 107) (.tmp 110) (.lit (.bool false)), none, []⟩, ⟨(some 112), .mv (.tmp 111), none, []⟩, ⟨(some 113), .call (.fn 17) [], (some (112, true)), []⟩, ⟨(some 114), .pick (.tmp 112) (.tmp 113) (.lit (.bool false)), none, []⟩, ⟨(some 4), .mv (.tmp 114), none, []⟩] (some [4]))
  .ret)))))))))⟩
theorem cf9 : cFunc Tryd.prog (fun _ => false) (keepL keep9) Tryd.f9 = some af9 := by kernel_rfl
theorem good9 : Good Tryd.prog (9, af9) := ⟨_, _, _, Tryd.func9, cf9⟩
/-- reprise/repriselaw01.LexerCovers -/
def keep10 : List (Nat × List Nat) := [(0, [0]), (1, [0, 3, 5]), (2, [0, 3, 16]), (3, [2]), (4, [0, 3, 6]), (5, [0, 3, 6, 7]), (6, [0, 3, 6, 7, 21]), (8, [0, 3, 6, 7, 8]), (9, [0, 3, 7, 8, 77]), (10, [2]), (11, [0, 3, 6, 7]), (7, [0, 3, 6, 7]), (12, [2])]
def lp10_0 : ACode :=
  (.seq (.seq (.region [⟨(some 18), .mv (.tmp 7), none, []⟩, ⟨(some 19), .mv (.tmp 3), none, []⟩, ⟨(some 20), .len false (.tmp 19), none, []⟩, ⟨(some 21), .arith .lss .none (.tmp 18) (.tmp 20), none, []⟩] (some [0, 3, 6, 7, 21]))
  (.cond (.tmp 21) .skip
  (.exit 0)))
  (.seq (.block 1 (.seq (.region [⟨(some 24), .mv (.tmp 3), none, []⟩, ⟨(some 25), .mv (.tmp 7), none, []⟩, ⟨(some 26), .indexAddrS 4 (.tmp 24) (.tmp 25), none, []⟩, ⟨(some 27), .load true 4 (.tmp 26), none, []⟩, ⟨(some 28), .call (.fn 35) [(.tmp 27)], none, []⟩, ⟨(some 8), .mv (.tmp 28), none, []⟩] (some [0, 3, 6, 7, 8]))
  (.seq (.seq (.drawn [⟨(some 29), .mv (.tmp 3), none, [3]⟩, ⟨(some 30), .mv (.tmp 7), none, [7]⟩, ⟨(some 31), .indexAddrS 4 (.tmp 29) (.tmp 30), none, [29, 30]⟩, ⟨(some 32), .addOff 3 (.tmp 31), none, [31]⟩, ⟨(some 33), .load false 1 (.tmp 32), none, [32]⟩, ⟨(some 34), .mv (.tmp 6), none, [6]⟩, ⟨(some 35), .mv (.tmp 0), none, [0]⟩, ⟨(some 36), .len true (.tmp 35), none, [35]⟩, ⟨(some 37), .mv (.tmp 8), none, [8]⟩, ⟨(some 38), .len true (.tmp 37), none, [37]⟩, ⟨(some 39), .arith .sub .none (.tmp 36) (.tmp 38), none, [36, 38]⟩, ⟨(some 40), .call (.fn 34) [(.tmp 33), (.tmp 34), (.tmp 39)], none, [33, 34, 39]⟩, ⟨(some 41), .not (.tmp 40), none, [40]⟩, ⟨(some 42), .mv (.tmp 41), none, [41]⟩, ⟨(some 43), .mv (.tmp 6), (some (42, false)), [6, 42]⟩, ⟨(some 44), .mv (.tmp 0), (some (42, false)), [0, 42]⟩, ⟨(some 45), .mv (.tmp 6), (some (42, false)), [6, 42]⟩, ⟨(some 46), .call (.fn 36) [(.tmp 44), (.tmp 45)], (some (42, false)), [44, 45, 42]⟩, ⟨(some 47), .arith .add .none (.tmp 43) (.tmp 46), (some (42, false)), [43, 46, 42]⟩, ⟨(some 48), .mv (.tmp 3), (some (42, false)), [3, 42]⟩, ⟨(some 49), .mv (.tmp 7), (some (42, false)), [7, 42]⟩, ⟨(some 50), .indexAddrS 4 (.tmp 48) (.tmp 49), (some (42, false)), [48, 49, 42]⟩, ⟨(some 51), .addOff 3 (.tmp 50), (some (42, false)), [50, 42]⟩, ⟨(some 52), .load false 1 (.tmp 51), (some (42, false)), [51, 42]⟩, ⟨(some 53), .arith .neq .none (.tmp 47) (.tmp 52), (some (42, false)), [47, 52, 42]⟩, ⟨(some 54), .pick (.tmp 42) (.lit (.bool true)) (.tmp 53), none, [42, 53]⟩, ⟨(some 55), .mv (.tmp 54), none, [54]⟩, ⟨(some 56), .mv (.tmp 0), (some (55, false)), [0, 55]⟩, ⟨(some 57), .mv (.tmp 3), (some (55, false)), [3, 55]⟩, ⟨(some 58), .mv (.tmp 7), (some (55, false)), [7, 55]⟩, ⟨(some 59), .indexAddrS 4 (.tmp 57) (.tmp 58), (some (55, false)), [57, 58, 55]⟩, ⟨(some 60), .addOff 3 (.tmp 59), (some (55, false)), [59, 55]⟩, ⟨(some 61), .load false 1 (.tmp 60), (some (55, false)), [60, 55]⟩, ⟨(some 62), .mv (.tmp 3), (some (55, false)), [3, 55]⟩, ⟨(some 63), .mv (.tmp 7), (some (55, false)), [7, 55]⟩, ⟨(some 64), .indexAddrS 4 (.tmp 62) (.tmp 63), (some (55, false)), [62, 63, 55]⟩, ⟨(some 65), .addOff 3 (.tmp 64), (some (55, false)), [64, 55]⟩, ⟨(some 66), .load false 1 (.tmp 65), (some (55, false)), [65, 55]⟩, ⟨(some 67), .mv (.tmp 8), (some (55, false)), [8, 55]⟩, ⟨(some 68), .len true (.tmp 67), (some (55, false)), [67, 55]⟩, ⟨(some 69), .arith .add .none (.tmp 66) (.tmp 68), (some (55, false)), [66, 68, 55]⟩, ⟨(some 70), .sliceStr (.tmp 56) (some (.tmp 61)) (some (.tmp 69)), (some (55, false)), [56, 61, 69, 55]⟩, ⟨(some 71), .mv (.tmp 8), (some (55, false)), [8, 55]⟩, ⟨(some 72), .arith .neq .none (.tmp 70) (.tmp 71), (some (55, false)), [70, 71, 55]⟩, ⟨(some 73), .pick (.tmp 55) (.lit (.bool true)) (.tmp 72), none, [55, 72]⟩, ⟨(some 74), .mv (.tmp 73), none, [73]⟩, ⟨(some 75), .mv (.tmp 8), (some (74, false)), [8, 74]⟩, ⟨(some 76), .arith .eql .none (.tmp 75) (.lit (.str [])), (some (74, false)), [75, 74]⟩, ⟨(some 77), .pick (.tmp 74) (.lit (.bool true)) (.tmp 76), none, [74, 76]⟩] [0, 0, 3, 7, 15, 0, 0, 64, 0, 256, 960, 2047, 4095, 8191, 16383, 16383, 16383, 114687, 262143, 16383, 16383, 1589247, 3686399, 7880703, 16777215, 33554431, 67108863, 134217727, 134217727, 134217727, 939524095, 2013265919, 4160749567, 134217727, 134217727, 25904021503, 60263759871, 128983236607, 134217727, 275012124671, 1091055910911, 2199023255551, 134217727, 8796093022207, 17592186044415, 35184372088831, 70368744177663, 140737488355327, 281474976710655] (some [0, 3, 7, 8, 77]))
  (.cond (.tmp 77) (.seq (.region [⟨(some 2), .mv (.lit (.bool false)), none, []⟩] (some [2]))
  .ret)
  .skip))
  (.region [⟨(some 78), .mv (.tmp 3), none, []⟩, ⟨(some 79), .mv (.tmp 7), none, []⟩, ⟨(some 80), .indexAddrS 4 (.tmp 78) (.tmp 79), none, []⟩, ⟨(some 81), .addOff 3 (.tmp 80), none, []⟩, ⟨(some 82), .load false 1 (.tmp 81), none, []⟩, ⟨(some 83), .mv (.tmp 8), none, []⟩, ⟨(some 84), .len true (.tmp 83), none, []⟩, ⟨(some 85), .arith .add .none (.tmp 82) (.tmp 84), none, []⟩, ⟨(some 6), .mv (.tmp 85), none, []⟩] (some [0, 3, 6, 7])))))
  (.region [⟨(some 22), .mv (.tmp 7), none, []⟩, ⟨(some 23), .arith .add .none (.tmp 22) (.lit (.int .i64 1)), none, []⟩, ⟨(some 7), .mv (.tmp 23), none, []⟩] (some [0, 3, 6, 7]))))
def af10 : AFunc := ⟨97, 1, [.tmp 2],
  (.seq (.region [⟨(some 2), .mv (.lit (.bool false)), none, []⟩] (some [0]))
  (.seq (.region [⟨(some 10), .mv (.tmp 0), none, []⟩, ⟨(some 11), .call (.fn 14) [(.tmp 10)], none, []⟩, ⟨(some 9), .mv (.tmp 11), none, []⟩, ⟨(some 12), .extract (.tmp 9) 0, none, []⟩, ⟨(some 13), .extract (.tmp 9) 1, none, []⟩, ⟨(some 14), .extract (.tmp 9) 2, none, []⟩, ⟨(some 3), .mv (.tmp 12), none, []⟩, ⟨(some 4), .mv (.tmp 13), none, []⟩, ⟨(some 5), .mv (.tmp 14), none, []⟩] (some [0, 3, 5]))
  (.seq (.seq (.region [⟨(some 15), .mv (.tmp 5), none, []⟩, ⟨(some 16), .arith .neq .none (.tmp 15) (.lit (.int .i64 0)), none, []⟩] (some [0, 3, 16]))
  (.cond (.tmp 16) (.seq (.region [⟨(some 17), .call (.fn 17) [], none, []⟩, ⟨(some 2), .mv (.tmp 17), none, []⟩] (some [2]))
  .ret)
  .skip))
  (.seq (.region [⟨(some 6), .mv (.lit (.int .i64 0)), none, []⟩] (some [0, 3, 6]))
  (.seq (.seq (.region [⟨(some 7), .mv (.lit (.int .i64 0)), none, []⟩] (some [0, 3, 6, 7]))
  (.block 0 (.loop lp10_0)))
  (.seq (.region [⟨(some 86), .mv (.tmp 6), none, []⟩, ⟨(some 87), .mv (.tmp 0), none, []⟩, ⟨(some 88), .mv (.tmp 6), none, []⟩, ⟨(some 89), .call (.fn 36) [(.tmp 87), (.tmp 88)], none, []⟩, ⟨(some 90), .arith .add .none (.tmp 86) (.tmp 89), none, []⟩, ⟨(some 91), .mv (.tmp 0), none, []⟩, ⟨(some 92), .len true (.tmp 91), none, []⟩, ⟨(some 93), .arith .eql .none (.tmp 90) (.tmp 92), none, []⟩, ⟨(some 94), .mv (.tmp 93), none, []⟩, ⟨(some 95), .call (.fn 17) [], (some (94, true)), []⟩, ⟨(some 96), .pick (.tmp 94) (.tmp 95) (.lit (.bool false)), none, []⟩, ⟨(some 2), .mv (.tmp 96), none, []⟩] (some [2]))
  .ret))))))⟩
theorem cf10 : cFunc Tryd.prog (fun _ => false) (keepL keep10) Tryd.f10 = some af10 := by kernel_rfl
theorem good10 : Good Tryd.prog (10, af10) := ⟨_, _, _, Tryd.func10, cf10⟩
/-- reprise/repriselaw01.LexerParts -/
def keep11 : List (Nat × List Nat) := [(0, [0, 1]), (1, [0, 1, 5, 6, 7]), (2, [0, 1, 5, 6, 7, 26]), (3, [0, 6, 32]), (4, [4]), (5, [10]), (6, [4]), (7, [0, 1, 5, 7, 11, 13]), (8, [0, 1, 5, 11, 66]), (9, [4]), (10, [0, 5, 11, 14, 15, 16]), (11, [0, 5, 11, 14, 92]), (12, [4]), (13, [0, 5, 11, 14, 17]), (14, [0, 5, 11, 14, 17, 96]), (16, [0, 5, 11, 14, 17, 18]), (17, [0, 5, 11, 14, 17, 18]), (18, [0, 5, 11, 14, 17, 118]), (19, [4]), (15, [0, 5, 11, 14, 17]), (20, [4])]
def lp11_0 : ACode :=
  (.seq (.seq (.region [⟨(some 93), .mv (.tmp 17), none, []⟩, ⟨(some 94), .mv (.tmp 11), none, []⟩, ⟨(some 95), .len false (.tmp 94), none, []⟩, ⟨(some 96), .arith .lss .none (.tmp 93) (.tmp 95), none, []⟩] (some [0, 5, 11, 14, 17, 96]))
  (.cond (.tmp 96) .skip
  (.exit 0)))
  (.seq (.block 1 (.seq (.region [⟨(some 99), .mv (.tmp 11), none, []⟩, ⟨(some 100), .mv (.tmp 17), none, []⟩, ⟨(some 101), .indexAddrS 4 (.tmp 99) (.tmp 100), none, []⟩, ⟨(some 102), .load true 4 (.tmp 101), none, []⟩, ⟨(some 18), .alloc [(.int .i64 0), (.str []), (.int .i64 0), (.int .i64 0)], none, []⟩, ⟨none, .store 4 (.tmp 18) (.tmp 102), none, []⟩] (some [0, 5, 11, 14, 17, 18]))
  (.seq (.region [⟨(some 103), .addOff 3 (.tmp 18), none, []⟩, ⟨(some 104), .load false 1 (.tmp 103), none, []⟩, ⟨(some 105), .mv (.tmp 0), none, []⟩, ⟨(some 106), .len true (.tmp 105), none, []⟩, ⟨(some 107), .arith .add .none (.tmp 104) (.tmp 106), none, []⟩, ⟨(some 108), .arith .add .none (.tmp 107) (.lit (.int .i64 1)), none, []⟩, ⟨(some 109), .addOff 3 (.tmp 18), none, []⟩, ⟨none, .store 1 (.tmp 109) (.tmp 108), none, []⟩] (some [0, 5, 11, 14, 17, 18]))
  (.seq (.drawn [⟨(some 110), .mv (.tmp 14), none, [14]⟩, ⟨(some 111), .mv (.tmp 5), none, [5]⟩, ⟨(some 112), .len false (.tmp 111), none, [111]⟩, ⟨(some 113), .mv (.tmp 17), none, [17]⟩, ⟨(some 114), .arith .add .none (.tmp 112) (.tmp 113), none, [112, 113]⟩, ⟨(some 115), .indexAddrS 4 (.tmp 110) (.tmp 114), none, [110, 114]⟩, ⟨(some 116), .load true 4 (.tmp 115), none, [115]⟩, ⟨(some 117), .load true 4 (.tmp 18), none, [18]⟩, ⟨(some 118), .arith .neq (.agg [1, 2, 1, 1]) (.tmp 116) (.tmp 117), none, [116, 117]⟩] [0, 0, 2, 0, 14, 31, 63, 0, 255] (some [0, 5, 11, 14, 17, 118]))
  (.cond (.tmp 118) (.seq (.region [⟨(some 4), .mv (.lit (.bool false)), none, []⟩] (some [4]))
  .ret)
  .skip)))))
  (.region [⟨(some 97), .mv (.tmp 17), none, []⟩, ⟨(some 98), .arith .add .none (.tmp 97) (.lit (.int .i64 1)), none, []⟩, ⟨(some 17), .mv (.tmp 98), none, []⟩] (some [0, 5, 11, 14, 17]))))
def af11 : AFunc := ⟨128, 2, [.tmp 4],
  (.seq (.region [⟨(some 4), .mv (.lit (.bool false)), none, []⟩] (some [0, 1]))
  (.seq (.region [⟨(some 20), .mv (.tmp 0), none, []⟩, ⟨(some 21), .call (.fn 14) [(.tmp 20)], none, []⟩, ⟨(some 19), .mv (.tmp 21), none, []⟩, ⟨(some 22), .extract (.tmp 19) 0, none, []⟩, ⟨(some 23), .extract (.tmp 19) 1, none, []⟩, ⟨(some 24), .extract (.tmp 19) 2, none, []⟩, ⟨(some 5), .mv (.tmp 22), none, []⟩, ⟨(some 6), .mv (.tmp 23), none, []⟩, ⟨(some 7), .mv (.tmp 24), none, []⟩] (some [0, 1, 5, 6, 7]))
  (.seq (.seq (.region [⟨(some 25), .mv (.tmp 7), none, []⟩, ⟨(some 26), .arith .eql .none (.tmp 25) (.lit (.int .i64 2)), none, []⟩] (some [0, 1, 5, 6, 7, 26]))
  (.cond (.tmp 26) (.seq (.seq (.region [⟨(some 27), .mv (.tmp 6), none, []⟩, ⟨(some 28), .mv (.tmp 0), none, []⟩, ⟨(some 29), .len true (.tmp 28), none, []⟩, ⟨(some 30), .arith .sub .none (.tmp 29) (.lit (.int .i64 1)), none, []⟩, ⟨(some 31), .call (.fn 34) [(.tmp 27), (.lit (.int .i64 0)), (.tmp 30)], none, []⟩, ⟨(some 32), .not (.tmp 31), none, []⟩] (some [0, 6, 32]))
  (.cond (.tmp 32) (.seq (.region [⟨(some 4), .mv (.lit (.bool false)), none, []⟩] (some [4]))
  .ret)
  .skip))
  (.seq (.region [⟨(some 34), .mv (.tmp 0), none, []⟩, ⟨(some 35), .mv (.tmp 6), none, []⟩, ⟨(some 36), .sliceStr (.tmp 34) none (some (.tmp 35)), none, []⟩, ⟨(some 37), .call (.fn 14) [(.tmp 36)], none, []⟩, ⟨(some 33), .mv (.tmp 37), none, []⟩, ⟨(some 38), .extract (.tmp 33) 0, none, []⟩, ⟨(some 39), .extract (.tmp 33) 1, none, []⟩, ⟨(some 40), .extract (.tmp 33) 2, none, []⟩, ⟨(some 8), .mv (.tmp 38), none, []⟩, ⟨(some 9), .mv (.tmp 39), none, []⟩, ⟨(some 10), .mv (.tmp 40), none, []⟩] (some [10]))
  (.seq (.region [⟨(some 41), .mv (.tmp 10), none, []⟩, ⟨(some 42), .arith .eql .none (.tmp 41) (.lit (.int .i64 0)), none, []⟩, ⟨(some 43), .mv (.tmp 42), none, []⟩, ⟨(some 44), .call (.fn 17) [], (some (43, true)), []⟩, ⟨(some 45), .pick (.tmp 43) (.tmp 44) (.lit (.bool false)), none, []⟩, ⟨(some 4), .mv (.tmp 45), none, []⟩] (some [4]))
  .ret)))
  .skip))
  (.seq (.region [⟨(some 47), .mv (.tmp 1), none, []⟩, ⟨(some 48), .call (.fn 14) [(.tmp 47)], none, []⟩, ⟨(some 46), .mv (.tmp 48), none, []⟩, ⟨(some 49), .extract (.tmp 46) 0, none, []⟩, ⟨(some 50), .extract (.tmp 46) 1, none, []⟩, ⟨(some 51), .extract (.tmp 46) 2, none, []⟩, ⟨(some 11), .mv (.tmp 49), none, []⟩, ⟨(some 12), .mv (.tmp 50), none, []⟩, ⟨(some 13), .mv (.tmp 51), none, []⟩] (some [0, 1, 5, 7, 11, 13]))
  (.seq (.seq (.region [⟨(some 52), .mv (.tmp 7), none, []⟩, ⟨(some 53), .arith .neq .none (.tmp 52) (.lit (.int .i64 0)), none, []⟩, ⟨(some 54), .mv (.tmp 53), none, []⟩, ⟨(some 55), .mv (.tmp 13), (some (54, false)), []⟩, ⟨(some 56), .arith .neq .none (.tmp 55) (.lit (.int .i64 0)), (some (54, false)), []⟩, ⟨(some 57), .pick (.tmp 54) (.lit (.bool true)) (.tmp 56), none, []⟩, ⟨(some 58), .mv (.tmp 57), none, []⟩, ⟨(some 59), .mv (.tmp 0), (some (58, false)), []⟩, ⟨(some 60), .len true (.tmp 59), (some (58, false)), []⟩, ⟨(some 61), .arith .add .none (.tmp 60) (.lit (.int .i64 1)), (some (58, false)), []⟩, ⟨(some 62), .mv (.tmp 1), (some (58, false)), []⟩, ⟨(some 63), .len true (.tmp 62), (some (58, false)), []⟩, ⟨(some 64), .arith .add .none (.tmp 61) (.tmp 63), (some (58, false)), []⟩, ⟨(some 65), .arith .gtr .none (.tmp 64) (.lit (.int .i64 30000)), (some (58, false)), []⟩, ⟨(some 66), .pick (.tmp 58) (.lit (.bool true)) (.tmp 65), none, []⟩] (some [0, 1, 5, 11, 66]))
  (.cond (.tmp 66) (.seq (.region [⟨(some 67), .call (.fn 17) [], none, []⟩, ⟨(some 4), .mv (.tmp 67), none, []⟩] (some [4]))
  .ret)
  .skip))
  (.seq (.region [⟨(some 69), .mv (.tmp 0), none, []⟩, ⟨(some 70), .arith .add .none (.tmp 69) (.lit (.str [10])), none, []⟩, ⟨(some 71), .mv (.tmp 1), none, []⟩, ⟨(some 72), .arith .add .none (.tmp 70) (.tmp 71), none, []⟩, ⟨(some 73), .call (.fn 14) [(.tmp 72)], none, []⟩, ⟨(some 68), .mv (.tmp 73), none, []⟩, ⟨(some 74), .extract (.tmp 68) 0, none, []⟩, ⟨(some 75), .extract (.tmp 68) 1, none, []⟩, ⟨(some 76), .extract (.tmp 68) 2, none, []⟩, ⟨(some 14), .mv (.tmp 74), none, []⟩, ⟨(some 15), .mv (.tmp 75), none, []⟩, ⟨(some 16), .mv (.tmp 76), none, []⟩] (some [0, 5, 11, 14, 15, 16]))
  (.seq (.seq (.region [⟨(some 77), .mv (.tmp 16), none, []⟩, ⟨(some 78), .arith .neq .none (.tmp 77) (.lit (.int .i64 0)), none, []⟩, ⟨(some 79), .mv (.tmp 78), none, []⟩, ⟨(some 80), .mv (.tmp 15), (some (79, false)), []⟩, ⟨(some 81), .arith .neq .none (.tmp 80) (.lit (.int .i64 0)), (some (79, false)), []⟩, ⟨(some 82), .pick (.tmp 79) (.lit (.bool true)) (.tmp 81), none, []⟩, ⟨(some 83), .mv (.tmp 82), none, []⟩, ⟨(some 84), .mv (.tmp 14), (some (83, false)), []⟩, ⟨(some 85), .len false (.tmp 84), (some (83, false)), []⟩, ⟨(some 86), .mv (.tmp 5), (some (83, false)), []⟩, ⟨(some 87), .len false (.tmp 86), (some (83, false)), []⟩, ⟨(some 88), .mv (.tmp 11), (some (83, false)), []⟩, ⟨(some 89), .len false (.tmp 88), (some (83, false)), []⟩, ⟨(some 90), .arith .add .none (.tmp 87) (.tmp 89), (some (83, false)), []⟩, ⟨(some 91), .arith .neq .none (.tmp 85) (.tmp 90), (some (83, false)), []⟩, ⟨(some 92), .pick (.tmp 83) (.lit (.bool true)) (.tmp 91), none, []⟩] (some [0, 5, 11, 14, 92]))
  (.cond (.tmp 92) (.seq (.region [⟨(some 4), .mv (.lit (.bool false)), none, []⟩] (some [4]))
  .ret)
  .skip))
  (.seq (.seq (.region [⟨(some 17), .mv (.lit (.int .i64 0)), none, []⟩] (some [0, 5, 11, 14, 17]))
  (.block 0 (.loop lp11_0)))
  (.seq (.region [⟨(some 119), .mv (.tmp 14), none, []⟩, ⟨(some 120), .mv (.tmp 5), none, []⟩, ⟨(some 121), .len false (.tmp 120), none, []⟩, ⟨(some 122), .sliceRow 4 (.tmp 119) none (some (.tmp 121)) none, none, []⟩, ⟨(some 123), .mv (.tmp 5), none, []⟩, ⟨(some 124), .call (.fn 16) [(.tmp 122), (.tmp 123)], none, []⟩, ⟨(some 125), .mv (.tmp 124), none, []⟩, ⟨(some 126), .call (.fn 17) [], (some (125, true)), []⟩, ⟨(some 127), .pick (.tmp 125) (.tmp 126) (.lit (.bool false)), none, []⟩, ⟨(some 4), .mv (.tmp 127), none, []⟩] (some [4]))
  .ret)))))))))⟩
theorem cf11 : cFunc Tryd.prog (fun _ => false) (keepL keep11) Tryd.f11 = some af11 := by kernel_rfl
theorem good11 : Good Tryd.prog (11, af11) := ⟨_, _, _, Tryd.func11, cf11⟩
/-- reprise/repriselaw01.LexerWraps -/
def keep12 : List (Nat × List Nat) := [(0, [0, 1]), (1, [5, 6]), (2, [5, 6, 7, 8]), (3, [5, 6, 7, 8, 39]), (4, [4]), (5, [4])]
def af12 : AFunc := ⟨82, 2, [.tmp 4],
  (.seq (.region [⟨(some 4), .mv (.lit (.bool false)), none, []⟩] (some [0, 1]))
  (.seq (.region [⟨(some 9), .mv (.tmp 0), none, []⟩, ⟨(some 10), .toInt .i64 (.tmp 9), none, []⟩, ⟨(some 11), .mv (.tmp 1), none, []⟩, ⟨(some 12), .toInt .i64 (.tmp 11), none, []⟩, ⟨(some 5), .mv (.tmp 10), none, []⟩, ⟨(some 6), .mv (.tmp 12), none, []⟩] (some [5, 6]))
  (.seq (.region [⟨(some 13), .mv (.tmp 5), none, []⟩, ⟨(some 14), .call (.fn 22) [(.tmp 13)], none, []⟩, ⟨(some 15), .mv (.tmp 6), none, []⟩, ⟨(some 16), .call (.fn 22) [(.tmp 15)], none, []⟩, ⟨(some 7), .mv (.tmp 14), none, []⟩, ⟨(some 8), .mv (.tmp 16), none, []⟩] (some [5, 6, 7, 8]))
  (.seq (.seq (.region [⟨(some 17), .mv (.tmp 7), none, []⟩, ⟨(some 18), .call (.fn 34) [(.tmp 17), (.lit (.int .i64 (-999999999))), (.lit (.int .i64 999999999))], none, []⟩, ⟨(some 19), .not (.tmp 18), none, []⟩, ⟨(some 20), .mv (.tmp 19), none, []⟩, ⟨(some 21), .mv (.tmp 8), (some (20, false)), []⟩, ⟨(some 22), .call (.fn 34) [(.tmp 21), (.lit (.int .i64 (-999999999))), (.lit (.int .i64 999999999))], (some (20, false)), []⟩, ⟨(some 23), .not (.tmp 22), (some (20, false)), []⟩, ⟨(some 24), .pick (.tmp 20) (.lit (.bool true)) (.tmp 23), none, []⟩, ⟨(some 25), .mv (.tmp 24), none, []⟩, ⟨(some 26), .mv (.tmp 7), (some (25, false)), []⟩, ⟨(some 27), .call (.fn 22) [(.tmp 26)], (some (25, false)), []⟩, ⟨(some 28), .mv (.tmp 7), (some (25, false)), []⟩, ⟨(some 29), .arith .neq .none (.tmp 27) (.tmp 28), (some (25, false)), []⟩, ⟨(some 30), .pick (.tmp 25) (.lit (.bool true)) (.tmp 29), none, []⟩, ⟨(some 31), .mv (.tmp 30), none, []⟩, ⟨(some 32), .mv (.tmp 5), (some (31, false)), []⟩, ⟨(some 33), .call (.fn 34) [(.tmp 32), (.lit (.int .i64 (-999999999))), (.lit (.int .i64 999999999))], (some (31, false)), []⟩, ⟨(some 34), .mv (.tmp 33), (some (31, false)), []⟩, ⟨(some 35), .mv (.tmp 7), (some (34, true)), []⟩, ⟨(some 36), .mv (.tmp 5), (some (34, true)), []⟩, ⟨(some 37), .arith .neq .none (.tmp 35) (.tmp 36), (some (34, true)), []⟩, ⟨(some 38), .pick (.tmp 34) (.tmp 37) (.lit (.bool false)), (some (31, false)), []⟩, ⟨(some 39), .pick (.tmp 31) (.lit (.bool true)) (.tmp 38), none, []⟩] (some [5, 6, 7, 8, 39]))
  (.cond (.tmp 39) (.seq (.region [⟨(some 4), .mv (.lit (.bool false)), none, []⟩] (some [4]))
  .ret)
  .skip))
  (.seq (.region [⟨(some 40), .mv (.tmp 7), none, []⟩, ⟨(some 41), .mv (.tmp 8), none, []⟩, ⟨(some 42), .arith .add .none (.tmp 40) (.tmp 41), none, []⟩, ⟨(some 43), .call (.fn 22) [(.tmp 42)], none, []⟩, ⟨(some 44), .mv (.tmp 5), none, []⟩, ⟨(some 45), .mv (.tmp 6), none, []⟩, ⟨(some 46), .arith .add .none (.tmp 44) (.tmp 45), none, []⟩, ⟨(some 47), .call (.fn 22) [(.tmp 46)], none, []⟩, ⟨(some 48), .arith .eql .none (.tmp 43) (.tmp 47), none, []⟩, ⟨(some 49), .mv (.tmp 48), none, []⟩, ⟨(some 50), .mv (.tmp 7), (some (49, true)), []⟩, ⟨(some 51), .mv (.tmp 8), (some (49, true)), []⟩, ⟨(some 52), .arith .sub .none (.tmp 50) (.tmp 51), (some (49, true)), []⟩, ⟨(some 53), .call (.fn 22) [(.tmp 52)], (some (49, true)), []⟩, ⟨(some 54), .mv (.tmp 5), (some (49, true)), []⟩, ⟨(some 55), .mv (.tmp 6), (some (49, true)), []⟩, ⟨(some 56), .arith .sub .none (.tmp 54) (.tmp 55), (some (49, true)), []⟩, ⟨(some 57), .call (.fn 22) [(.tmp 56)], (some (49, true)), []⟩, ⟨(some 58), .arith .eql .none (.tmp 53) (.tmp 57), (some (49, true)), []⟩, ⟨(some 59), .pick (.tmp 49) (.tmp 58) (.lit (.bool false)), none, []⟩, ⟨(some 60), .mv (.tmp 59), none, []⟩, ⟨(some 61), .mv (.tmp 7), (some (60, true)), []⟩, ⟨(some 62), .mv (.tmp 8), (some (60, true)), []⟩, ⟨(some 63), .arith .mul .none (.tmp 61) (.tmp 62), (some (60, true)), []⟩, ⟨(some 64), .call (.fn 22) [(.tmp 63)], (some (60, true)), []⟩, ⟨(some 65), .mv (.tmp 5), (some (60, true)), []⟩, ⟨(some 66), .mv (.tmp 6), (some (60, true)), []⟩, ⟨(some 67), .arith .mul .none (.tmp 65) (.tmp 66), (some (60, true)), []⟩, ⟨(some 68), .call (.fn 22) [(.tmp 67)], (some (60, true)), []⟩, ⟨(some 69), .arith .eql .none (.tmp 64) (.tmp 68), (some (60, true)), []⟩, ⟨(some 70), .pick (.tmp 60) (.tmp 69) (.lit (.bool false)), none, []⟩, ⟨(some 71), .mv (.tmp 70), none, []⟩, ⟨(some 72), .mv (.tmp 7), (some (71, true)), []⟩, ⟨(some 73), .arith .sub .none (.lit (.int .i64 0)) (.tmp 72), (some (71, true)), []⟩, ⟨(some 74), .call (.fn 22) [(.tmp 73)], (some (71, true)), []⟩, ⟨(some 75), .mv (.tmp 7), (some (71, true)), []⟩, ⟨(some 76), .arith .sub .none (.lit (.int .i64 0)) (.tmp 75), (some (71, true)), []⟩, ⟨(some 77), .arith .eql .none (.tmp 74) (.tmp 76), (some (71, true)), []⟩, ⟨(some 78), .pick (.tmp 71) (.tmp 77) (.lit (.bool false)), none, []⟩, ⟨(some 79), .mv (.tmp 78), none, []⟩, ⟨(some 80), .call (.fn 17) [], (some (79, true)), []⟩, ⟨(some 81), .pick (.tmp 79) (.tmp 80) (.lit (.bool false)), none, []⟩, ⟨(some 4), .mv (.tmp 81), none, []⟩] (some [4]))
  .ret)))))⟩
theorem cf12 : cFunc Tryd.prog (fun _ => false) (keepL keep12) Tryd.f12 = some af12 := by kernel_rfl
theorem good12 : Good Tryd.prog (12, af12) := ⟨_, _, _, Tryd.func12, cf12⟩
/-- reprise/repriselaw01.LexerClasses -/
def keep13 : List (Nat × List Nat) := [(0, [0, 1]), (1, [0, 1, 5]), (2, [0, 1, 5, 6]), (3, [0, 1, 5, 6, 15]), (4, [0, 1, 5, 6]), (5, [0, 1, 5, 6, 19]), (6, [0, 1, 5, 6]), (7, [0, 1, 5, 6, 23]), (8, [0, 1, 5, 6]), (9, [0, 1, 5, 6, 7, 9]), (10, [0, 1, 5, 7, 9, 55]), (11, [4]), (12, [1, 81]), (13, [4]), (14, [10]), (15, [10, 11, 13]), (16, [4])]
def af13 : AFunc := ⟨110, 2, [.tmp 4],
  (.seq (.region [⟨(some 4), .mv (.lit (.bool false)), none, []⟩] (some [0, 1]))
  (.seq (.region [⟨(some 5), .mv (.lit (.int .i64 0)), none, []⟩] (some [0, 1, 5]))
  (.seq (.region [⟨(some 6), .mv (.lit (.int .i64 (-1))), none, []⟩] (some [0, 1, 5, 6]))
  (.seq (.seq (.region [⟨(some 14), .mv (.tmp 0), none, []⟩, ⟨(some 15), .call (.fn 26) [(.tmp 14)], none, []⟩] (some [0, 1, 5, 6, 15]))
  (.cond (.tmp 15) (.region [⟨(some 16), .mv (.tmp 5), none, []⟩, ⟨(some 17), .arith .add .none (.tmp 16) (.lit (.int .i64 1)), none, []⟩, ⟨(some 5), .mv (.tmp 17), none, []⟩, ⟨(some 6), .mv (.lit (.int .i64 0)), none, []⟩] (some [0, 1, 5, 6]))
  .skip))
  (.seq (.seq (.region [⟨(some 18), .mv (.tmp 0), none, []⟩, ⟨(some 19), .call (.fn 28) [(.tmp 18)], none, []⟩] (some [0, 1, 5, 6, 19]))
  (.cond (.tmp 19) (.region [⟨(some 20), .mv (.tmp 5), none, []⟩, ⟨(some 21), .arith .add .none (.tmp 20) (.lit (.int .i64 1)), none, []⟩, ⟨(some 5), .mv (.tmp 21), none, []⟩, ⟨(some 6), .mv (.lit (.int .i64 2)), none, []⟩] (some [0, 1, 5, 6]))
  .skip))
  (.seq (.seq (.region [⟨(some 22), .mv (.tmp 0), none, []⟩, ⟨(some 23), .call (.fn 30) [(.tmp 22)], none, []⟩] (some [0, 1, 5, 6, 23]))
  (.cond (.tmp 23) (.region [⟨(some 24), .mv (.tmp 5), none, []⟩, ⟨(some 25), .arith .add .none (.tmp 24) (.lit (.int .i64 1)), none, []⟩, ⟨(some 5), .mv (.tmp 25), none, []⟩, ⟨(some 6), .mv (.lit (.int .i64 1)), none, []⟩] (some [0, 1, 5, 6]))
  .skip))
  (.seq (.region [⟨(some 27), .mv (.tmp 0), none, []⟩, ⟨(some 28), .call (.fn 14) [(.tmp 27)], none, []⟩, ⟨(some 26), .mv (.tmp 28), none, []⟩, ⟨(some 29), .extract (.tmp 26) 0, none, []⟩, ⟨(some 30), .extract (.tmp 26) 1, none, []⟩, ⟨(some 31), .extract (.tmp 26) 2, none, []⟩, ⟨(some 7), .mv (.tmp 29), none, []⟩, ⟨(some 8), .mv (.tmp 30), none, []⟩, ⟨(some 9), .mv (.tmp 31), none, []⟩] (some [0, 1, 5, 6, 7, 9]))
  (.seq (.seq (.region [⟨(some 32), .mv (.tmp 5), none, []⟩, ⟨(some 33), .arith .gtr .none (.tmp 32) (.lit (.int .i64 1)), none, []⟩, ⟨(some 34), .mv (.tmp 33), none, []⟩, ⟨(some 35), .mv (.tmp 5), (some (34, false)), []⟩, ⟨(some 36), .arith .eql .none (.tmp 35) (.lit (.int .i64 1)), (some (34, false)), []⟩, ⟨(some 37), .mv (.tmp 36), (some (34, false)), []⟩, ⟨(some 38), .mv (.tmp 9), (some (37, true)), []⟩, ⟨(some 39), .arith .neq .none (.tmp 38) (.lit (.int .i64 0)), (some (37, true)), []⟩, ⟨(some 40), .mv (.tmp 39), (some (37, true)), []⟩, ⟨(some 41), .mv (.tmp 7), (some (40, false)), []⟩, ⟨(some 42), .len false (.tmp 41), (some (40, false)), []⟩, ⟨(some 43), .arith .neq .none (.tmp 42) (.lit (.int .i64 1)), (some (40, false)), []⟩, ⟨(some 44), .pick (.tmp 40) (.lit (.bool true)) (.tmp 43), (some (37, true)), []⟩, ⟨(some 45), .mv (.tmp 44), (some (37, true)), []⟩, ⟨(some 46), .mv (.tmp 7), (some (45, false)), []⟩, ⟨(some 47), .indexAddrS 4 (.tmp 46) (.lit (.int .i64 0)), (some (45, false)), []⟩, ⟨(some 48), .load true 4 (.tmp 47), (some (45, false)), []⟩, ⟨(some 49), .mv (.tmp 6), (some (45, false)), []⟩, ⟨(some 50), .mv (.tmp 0), (some (45, false)), []⟩, ⟨(some 51), .build [(.int .i64 0), (.str []), (.int .i64 0), (.int .i64 0)] [(0, 1, (.tmp 49)), (1, 1, (.tmp 50))], (some (45, false)), []⟩, ⟨(some 52), .arith .neq (.agg [1, 2, 1, 1]) (.tmp 48) (.tmp 51), (some (45, false)), []⟩, ⟨(some 53), .pick (.tmp 45) (.lit (.bool true)) (.tmp 52), (some (37, true)), []⟩, ⟨(some 54), .pick (.tmp 37) (.tmp 53) (.lit (.bool false)), (some (34, false)), []⟩, ⟨(some 55), .pick (.tmp 34) (.lit (.bool true)) (.tmp 54), none, []⟩] (some [0, 1, 5, 7, 9, 55]))
  (.cond (.tmp 55) (.seq (.region [⟨(some 4), .mv (.lit (.bool false)), none, []⟩] (some [4]))
  .ret)
  .skip))
  (.seq (.seq (.region [⟨(some 56), .mv (.tmp 5), none, []⟩, ⟨(some 57), .arith .eql .none (.tmp 56) (.lit (.int .i64 0)), none, []⟩, ⟨(some 58), .mv (.tmp 57), none, []⟩, ⟨(some 59), .mv (.tmp 9), (some (58, true)), []⟩, ⟨(some 60), .arith .eql .none (.tmp 59) (.lit (.int .i64 0)), (some (58, true)), []⟩, ⟨(some 61), .pick (.tmp 58) (.tmp 60) (.lit (.bool false)), none, []⟩, ⟨(some 62), .mv (.tmp 61), none, []⟩, ⟨(some 63), .mv (.tmp 7), (some (62, true)), []⟩, ⟨(some 64), .len false (.tmp 63), (some (62, true)), []⟩, ⟨(some 65), .arith .eql .none (.tmp 64) (.lit (.int .i64 1)), (some (62, true)), []⟩, ⟨(some 66), .pick (.tmp 62) (.tmp 65) (.lit (.bool false)), none, []⟩, ⟨(some 67), .mv (.tmp 66), none, []⟩, ⟨(some 68), .mv (.tmp 7), (some (67, true)), []⟩, ⟨(some 69), .indexAddrS 4 (.tmp 68) (.lit (.int .i64 0)), (some (67, true)), []⟩, ⟨(some 70), .addOff 0 (.tmp 69), (some (67, true)), []⟩, ⟨(some 71), .load false 1 (.tmp 70), (some (67, true)), []⟩, ⟨(some 72), .call (.fn 34) [(.tmp 71), (.lit (.int .i64 0)), (.lit (.int .i64 2))], (some (67, true)), []⟩, ⟨(some 73), .pick (.tmp 67) (.tmp 72) (.lit (.bool false)), none, []⟩, ⟨(some 74), .mv (.tmp 73), none, []⟩, ⟨(some 75), .mv (.tmp 7), (some (74, true)), []⟩, ⟨(some 76), .indexAddrS 4 (.tmp 75) (.lit (.int .i64 0)), (some (74, true)), []⟩, ⟨(some 77), .addOff 1 (.tmp 76), (some (74, true)), []⟩, ⟨(some 78), .load false 1 (.tmp 77), (some (74, true)), []⟩, ⟨(some 79), .mv (.tmp 0), (some (74, true)), []⟩, ⟨(some 80), .arith .eql .none (.tmp 78) (.tmp 79), (some (74, true)), []⟩, ⟨(some 81), .pick (.tmp 74) (.tmp 80) (.lit (.bool false)), none, []⟩] (some [1, 81]))
  (.cond (.tmp 81) (.seq (.region [⟨(some 4), .mv (.lit (.bool false)), none, []⟩] (some [4]))
  .ret)
  .skip))
  (.seq (.region [⟨(some 82), .mv (.tmp 1), none, []⟩, ⟨(some 83), .arith .rem .none (.tmp 82) (.lit (.int .u32 1000000000)), none, []⟩, ⟨(some 84), .toInt .i64 (.tmp 83), none, []⟩, ⟨(some 10), .mv (.tmp 84), none, []⟩] (some [10]))
  (.seq (.region [⟨(some 86), .mv (.tmp 10), none, []⟩, ⟨(some 87), .call (.fn 24) [(.tmp 86)], none, []⟩, ⟨(some 88), .call (.fn 14) [(.tmp 87)], none, []⟩, ⟨(some 85), .mv (.tmp 88), none, []⟩, ⟨(some 89), .extract (.tmp 85) 0, none, []⟩, ⟨(some 90), .extract (.tmp 85) 1, none, []⟩, ⟨(some 91), .extract (.tmp 85) 2, none, []⟩, ⟨(some 11), .mv (.tmp 89), none, []⟩, ⟨(some 12), .mv (.tmp 90), none, []⟩, ⟨(some 13), .mv (.tmp 91), none, []⟩] (some [10, 11, 13]))
  (.seq (.region [⟨(some 92), .mv (.tmp 13), none, []⟩, ⟨(some 93), .arith .eql .none (.tmp 92) (.lit (.int .i64 0)), none, []⟩, ⟨(some 94), .mv (.tmp 93), none, []⟩, ⟨(some 95), .mv (.tmp 11), (some (94, true)), []⟩, ⟨(some 96), .len false (.tmp 95), (some (94, true)), []⟩, ⟨(some 97), .arith .eql .none (.tmp 96) (.lit (.int .i64 1)), (some (94, true)), []⟩, ⟨(some 98), .pick (.tmp 94) (.tmp 97) (.lit (.bool false)), none, []⟩, ⟨(some 99), .mv (.tmp 98), none, []⟩, ⟨(some 100), .mv (.tmp 11), (some (99, true)), []⟩, ⟨(some 101), .indexAddrS 4 (.tmp 100) (.lit (.int .i64 0)), (some (99, true)), []⟩, ⟨(some 102), .load true 4 (.tmp 101), (some (99, true)), []⟩, ⟨(some 103), .mv (.tmp 10), (some (99, true)), []⟩, ⟨(some 104), .build [(.int .i64 0), (.str []), (.int .i64 0), (.int .i64 0)] [(0, 1, (.lit (.int .i64 3))), (2, 1, (.tmp 103))], (some (99, true)), []⟩, ⟨(some 105), .arith .eql (.agg [1, 2, 1, 1]) (.tmp 102) (.tmp 104), (some (99, true)), []⟩, ⟨(some 106), .pick (.tmp 99) (.tmp 105) (.lit (.bool false)), none, []⟩, ⟨(some 107), .mv (.tmp 106), none, []⟩, ⟨(some 108), .call (.fn 17) [], (some (107, true)), []⟩, ⟨(some 109), .pick (.tmp 107) (.tmp 108) (.lit (.bool false)), none, []⟩, ⟨(some 4), .mv (.tmp 109), none, []⟩] (some [4]))
  .ret))))))))))))⟩
theorem cf13 : cFunc Tryd.prog (fun _ => false) (keepL keep13) Tryd.f13 = some af13 := by kernel_rfl
theorem good13 : Good Tryd.prog (13, af13) := ⟨_, _, _, Tryd.func13, cf13⟩
/-- reprise/lexer.Lex -/
def keep14 : List (Nat × List Nat) := [(0, [0, 2, 3, 4, 17, 18]), (1, [0, 2, 3, 4, 10, 17, 18]), (2, [2, 3, 4]), (3, [2, 3, 4, 5, 17, 18]), (4, [2, 3, 4, 16, 17, 18]), (5, [2, 3, 4, 6, 18]), (6, [2, 3, 4, 6, 7]), (7, [2, 3, 4, 6, 20]), (8, [2, 3, 4]), (9, [2, 3, 4]), (10, [2, 3, 4])]
def as14_0 : ACode :=
  (.seq (.region [⟨(some 6), .alloc [(.int .i64 0), (.str []), (.int .i64 0), (.int .i64 0)], none, []⟩, ⟨none, .store 4 (.tmp 6) (.tmp 17), none, []⟩] (some [2, 3, 4, 6, 18]))
  (.region [⟨(some 7), .mv (.tmp 18), none, []⟩] (some [2, 3, 4, 6, 7])))
def bd14_1 : ACode :=
  (.block 1 (.seq (.seq (.region [⟨(some 19), .mv (.tmp 7), none, []⟩, ⟨(some 20), .not (.tmp 19), none, []⟩] (some [2, 3, 4, 6, 20]))
  (.cond (.tmp 20) (.seq (.drawn [⟨(some 21), .addOff 3 (.tmp 6), none, [6]⟩, ⟨(some 22), .load false 1 (.tmp 21), none, [21]⟩, ⟨none, .store 1 (.tmp 2) (.lit .empty), none, [2]⟩, ⟨none, .store 1 (.tmp 3) (.tmp 22), none, [3, 22]⟩, ⟨none, .store 1 (.tmp 4) (.lit (.int .i64 2)), none, [4]⟩] [0, 1, 0, 7, 15] (some [2, 3, 4]))
  .ret)
  .skip))
  (.region [⟨(some 23), .load false 1 (.tmp 2), none, []⟩, ⟨(some 24), .load true 4 (.tmp 6), none, []⟩, ⟨(some 25), .buildSlice 4 1 [(.int .i64 0), (.str []), (.int .i64 0), (.int .i64 0)] [(0, (.tmp 24))], none, []⟩, ⟨(some 26), .append 4 40 (.tmp 23) (.tmp 25), none, []⟩, ⟨none, .store 1 (.tmp 2) (.tmp 26), none, []⟩] (some [2, 3, 4]))))
def af14 : AFunc := ⟨28, 1, [.cell 2 false 1, .cell 3 false 1, .cell 4 false 1],
  (.seq (.region [⟨(some 2), .allocRow 4, none, []⟩, ⟨(some 3), .alloc [(.int .i64 0)], none, []⟩, ⟨(some 4), .alloc [(.int .i64 0)], none, []⟩] (some [0, 2, 3, 4, 17, 18]))
  (.seq (.seq (.region [⟨(some 8), .mv (.tmp 0), none, []⟩, ⟨(some 9), .len true (.tmp 8), none, []⟩, ⟨(some 10), .arith .gtr .none (.tmp 9) (.lit (.int .i64 30000)), none, []⟩] (some [0, 2, 3, 4, 10, 17, 18]))
  (.cond (.tmp 10) (.seq (.region [⟨none, .store 1 (.tmp 2) (.lit .empty), none, []⟩, ⟨none, .store 1 (.tmp 3) (.lit (.int .i64 0)), none, []⟩, ⟨none, .store 1 (.tmp 4) (.lit (.int .i64 3)), none, []⟩] (some [2, 3, 4]))
  .ret)
  .skip))
  (.seq (.region [⟨(some 11), .mv (.tmp 0), none, []⟩, ⟨(some 12), .build [(.str []), (.int .i64 0)] [(0, 1, (.tmp 11))], none, []⟩, ⟨(some 13), .build [(.str []), (.int .i64 0)] [(0, 2, (.tmp 12))], none, []⟩, ⟨(some 14), .box (.tmp 13), none, []⟩, ⟨(some 5), .mv (.tmp 14), none, []⟩] (some [2, 3, 4, 5, 17, 18]))
  (.seq (.seq (.region [⟨(some 15), .mv (.tmp 5), none, []⟩, ⟨(some 16), .call (.fn 37) [(.tmp 15)], none, []⟩] (some [2, 3, 4, 16, 17, 18]))
  (.block 0 (.rangeFunc (.tmp 16) [17, 18] as14_0 bd14_1)))
  (.seq (.region [⟨(some 27), .load false 1 (.tmp 2), none, []⟩, ⟨none, .store 1 (.tmp 2) (.tmp 27), none, []⟩, ⟨none, .store 1 (.tmp 3) (.lit (.int .i64 0)), none, []⟩, ⟨none, .store 1 (.tmp 4) (.lit (.int .i64 0)), none, []⟩] (some [2, 3, 4]))
  .ret)))))⟩
theorem cf14 : cFunc Tryd.prog (fun t => t == 2) (keepL keep14) Tryd.f14 = some af14 := by kernel_rfl
theorem good14 : Good Tryd.prog (14, af14) := ⟨_, _, _, Tryd.func14, cf14⟩
/-- reprise/repriseref01.Lex -/
def keep15 : List (Nat × List Nat) := [(0, [0]), (1, [0, 11]), (2, [2, 3, 4]), (3, [0, 5]), (4, [0, 5, 6]), (5, [0, 5, 6, 17]), (6, [0, 5, 6, 7]), (7, [0, 5, 6, 7, 8]), (8, [0, 5, 6, 7, 8, 25]), (9, [2, 3, 4]), (10, [0, 5, 6, 7, 8]), (11, [0, 5, 6, 7]), (12, [0, 5, 6]), (13, [0, 5, 6]), (14, [2, 3, 4])]
def lp15_0 : ACode :=
  (.seq (.seq (.region [⟨(some 14), .mv (.tmp 6), none, []⟩, ⟨(some 15), .mv (.tmp 0), none, []⟩, ⟨(some 16), .len true (.tmp 15), none, []⟩, ⟨(some 17), .arith .lss .none (.tmp 14) (.tmp 16), none, []⟩] (some [0, 5, 6, 17]))
  (.cond (.tmp 17) .skip
  (.exit 0)))
  (.block 1 (.seq (.region [⟨(some 18), .mv (.tmp 0), none, []⟩, ⟨(some 19), .mv (.tmp 6), none, []⟩, ⟨(some 20), .call (.fn 38) [(.tmp 18), (.tmp 19)], none, []⟩, ⟨(some 7), .mv (.tmp 20), none, []⟩] (some [0, 5, 6, 7]))
  (.seq (.region [⟨(some 21), .mv (.tmp 7), none, []⟩, ⟨(some 22), .call (.fn 39) [(.tmp 21)], none, []⟩, ⟨(some 8), .alloc [(.int .i64 0), (.str []), (.int .i64 0), (.int .i64 0)], none, []⟩, ⟨none, .store 4 (.tmp 8) (.tmp 22), none, []⟩] (some [0, 5, 6, 7, 8]))
  (.seq (.seq (.region [⟨(some 23), .addOff 0 (.tmp 8), none, []⟩, ⟨(some 24), .load false 1 (.tmp 23), none, []⟩, ⟨(some 25), .arith .lss .none (.tmp 24) (.lit (.int .i64 0)), none, []⟩] (some [0, 5, 6, 7, 8, 25]))
  (.cond (.tmp 25) (.seq (.region [⟨(some 26), .mv (.tmp 6), none, []⟩, ⟨(some 2), .mv (.lit .empty), none, []⟩, ⟨(some 3), .mv (.tmp 26), none, []⟩, ⟨(some 4), .mv (.lit (.int .i64 2)), none, []⟩] (some [2, 3, 4]))
  .ret)
  .skip))
  (.seq (.region [⟨(some 27), .mv (.tmp 6), none, []⟩, ⟨(some 28), .addOff 3 (.tmp 8), none, []⟩, ⟨none, .store 1 (.tmp 28) (.tmp 27), none, []⟩] (some [0, 5, 6, 7, 8]))
  (.seq (.region [⟨(some 29), .mv (.tmp 5), none, []⟩, ⟨(some 30), .load true 4 (.tmp 8), none, []⟩, ⟨(some 31), .buildSlice 4 1 [(.int .i64 0), (.str []), (.int .i64 0), (.int .i64 0)] [(0, (.tmp 30))], none, []⟩, ⟨(some 32), .append 4 40 (.tmp 29) (.tmp 31), none, []⟩, ⟨(some 5), .mv (.tmp 32), none, []⟩] (some [0, 5, 6, 7]))
  (.seq (.region [⟨(some 33), .mv (.tmp 6), none, []⟩, ⟨(some 34), .mv (.tmp 7), none, []⟩, ⟨(some 35), .len true (.tmp 34), none, []⟩, ⟨(some 36), .arith .add .none (.tmp 33) (.tmp 35), none, []⟩, ⟨(some 6), .mv (.tmp 36), none, []⟩] (some [0, 5, 6]))
  (.region [⟨(some 37), .mv (.tmp 6), none, []⟩, ⟨(some 38), .mv (.tmp 0), none, []⟩, ⟨(some 39), .mv (.tmp 6), none, []⟩, ⟨(some 40), .call (.fn 36) [(.tmp 38), (.tmp 39)], none, []⟩, ⟨(some 41), .arith .add .none (.tmp 37) (.tmp 40), none, []⟩, ⟨(some 6), .mv (.tmp 41), none, []⟩] (some [0, 5, 6]))))))))))
def af15 : AFunc := ⟨43, 1, [.tmp 2, .tmp 3, .tmp 4],
  (.seq (.region [⟨(some 2), .mv (.lit .empty), none, []⟩, ⟨(some 3), .mv (.lit (.int .i64 0)), none, []⟩, ⟨(some 4), .mv (.lit (.int .i64 0)), none, []⟩] (some [0]))
  (.seq (.seq (.region [⟨(some 9), .mv (.tmp 0), none, []⟩, ⟨(some 10), .len true (.tmp 9), none, []⟩, ⟨(some 11), .arith .gtr .none (.tmp 10) (.lit (.int .i64 30000)), none, []⟩] (some [0, 11]))
  (.cond (.tmp 11) (.seq (.region [⟨(some 2), .mv (.lit .empty), none, []⟩, ⟨(some 3), .mv (.lit (.int .i64 0)), none, []⟩, ⟨(some 4), .mv (.lit (.int .i64 3)), none, []⟩] (some [2, 3, 4]))
  .ret)
  .skip))
  (.seq (.region [⟨(some 5), .newrow 4, none, []⟩] (some [0, 5]))
  (.seq (.region [⟨(some 12), .mv (.tmp 0), none, []⟩, ⟨(some 13), .call (.fn 36) [(.tmp 12), (.lit (.int .i64 0))], none, []⟩, ⟨(some 6), .mv (.tmp 13), none, []⟩] (some [0, 5, 6]))
  (.seq (.block 0 (.loop lp15_0))
  (.seq (.region [⟨(some 42), .mv (.tmp 5), none, []⟩, ⟨(some 2), .mv (.tmp 42), none, []⟩, ⟨(some 3), .mv (.lit (.int .i64 0)), none, []⟩, ⟨(some 4), .mv (.lit (.int .i64 0)), none, []⟩] (some [2, 3, 4]))
  .ret))))))⟩
theorem cf15 : cFunc Tryd.prog (fun t => t == 5) (keepL keep15) Tryd.f15 = some af15 := by kernel_rfl
theorem good15 : Good Tryd.prog (15, af15) := ⟨_, _, _, Tryd.func15, cf15⟩
/-- reprise/repriselaw01.Same -/
def keep16 : List (Nat × List Nat) := [(0, [0, 1]), (1, [0, 1, 5]), (2, [0, 1, 5, 6]), (3, [0, 1, 5, 6, 18]), (5, [0, 1, 5, 6]), (4, [0, 1, 5, 6]), (6, [4])]
def lp16_0 : ACode :=
  (.seq (.seq (.region [⟨(some 12), .mv (.tmp 6), none, []⟩, ⟨(some 13), .mv (.tmp 0), none, []⟩, ⟨(some 14), .len false (.tmp 13), none, []⟩, ⟨(some 15), .arith .lss .none (.tmp 12) (.tmp 14), none, []⟩, ⟨(some 16), .mv (.tmp 15), none, []⟩, ⟨(some 17), .mv (.tmp 5), (some (16, true)), []⟩, ⟨(some 18), .pick (.tmp 16) (.tmp 17) (.lit (.bool false)), none, []⟩] (some [0, 1, 5, 6, 18]))
  (.cond (.tmp 18) .skip
  (.exit 0)))
  (.seq (.block 1 (.drawn [⟨(some 21), .mv (.tmp 0), none, [0]⟩, ⟨(some 22), .mv (.tmp 6), none, [6]⟩, ⟨(some 23), .indexAddrS 4 (.tmp 21) (.tmp 22), none, [21, 22]⟩, ⟨(some 24), .load true 4 (.tmp 23), none, [23]⟩, ⟨(some 25), .mv (.tmp 1), none, [1]⟩, ⟨(some 26), .mv (.tmp 6), none, [6]⟩, ⟨(some 27), .indexAddrS 4 (.tmp 25) (.tmp 26), none, [25, 26]⟩, ⟨(some 28), .load true 4 (.tmp 27), none, [27]⟩, ⟨(some 29), .arith .eql (.agg [1, 2, 1, 1]) (.tmp 24) (.tmp 28), none, [24, 28]⟩, ⟨(some 5), .mv (.tmp 29), none, [29]⟩] [0, 0, 3, 7, 0, 0, 48, 112, 255, 511] (some [0, 1, 5, 6])))
  (.region [⟨(some 19), .mv (.tmp 6), none, []⟩, ⟨(some 20), .arith .add .none (.tmp 19) (.lit (.int .i64 1)), none, []⟩, ⟨(some 6), .mv (.tmp 20), none, []⟩] (some [0, 1, 5, 6]))))
def af16 : AFunc := ⟨31, 2, [.tmp 4],
  (.seq (.region [⟨(some 4), .mv (.lit (.bool false)), none, []⟩] (some [0, 1]))
  (.seq (.region [⟨(some 7), .mv (.tmp 0), none, []⟩, ⟨(some 8), .len false (.tmp 7), none, []⟩, ⟨(some 9), .mv (.tmp 1), none, []⟩, ⟨(some 10), .len false (.tmp 9), none, []⟩, ⟨(some 11), .arith .eql .none (.tmp 8) (.tmp 10), none, []⟩, ⟨(some 5), .mv (.tmp 11), none, []⟩] (some [0, 1, 5]))
  (.seq (.seq (.region [⟨(some 6), .mv (.lit (.int .i64 0)), none, []⟩] (some [0, 1, 5, 6]))
  (.block 0 (.loop lp16_0)))
  (.seq (.region [⟨(some 30), .mv (.tmp 5), none, []⟩, ⟨(some 4), .mv (.tmp 30), none, []⟩] (some [4]))
  .ret))))⟩
theorem cf16 : cFunc Tryd.prog (fun _ => false) (keepL keep16) Tryd.f16 = some af16 := by kernel_rfl
theorem good16 : Good Tryd.prog (16, af16) := ⟨_, _, _, Tryd.func16, cf16⟩
/-- reprise/repriselaw01.Awake -/
def keep17 : List (Nat × List Nat) := [(0, []), (1, [1, 2, 3]), (2, [1, 2, 3, 5, 6]), (3, [1, 2, 3, 5, 6, 7, 8]), (4, [1, 2, 3, 5, 6, 7, 8, 10]), (5, [1, 2, 3, 5, 6, 7, 8, 10, 11, 12, 13]), (6, [1, 2, 3, 5, 6, 7, 8, 10, 11, 12, 13, 16]), (7, [0])]
def af17 : AFunc := ⟨124, 0, [.tmp 0],
  (.seq (.region [⟨(some 0), .mv (.lit (.bool false)), none, []⟩] (some []))
  (.seq (.region [⟨(some 18), .call (.fn 14) [(.lit (.str [102, 117, 110, 32, 120, 95, 49, 32, 45, 62, 32, 120, 95, 49, 32, 61, 61, 32, 49, 48, 32, 35, 32, 101, 110, 100]))], none, []⟩, ⟨(some 17), .mv (.tmp 18), none, []⟩, ⟨(some 19), .extract (.tmp 17) 0, none, []⟩, ⟨(some 20), .extract (.tmp 17) 1, none, []⟩, ⟨(some 21), .extract (.tmp 17) 2, none, []⟩, ⟨(some 1), .mv (.tmp 19), none, []⟩, ⟨(some 2), .mv (.tmp 20), none, []⟩, ⟨(some 3), .mv (.tmp 21), none, []⟩] (some [1, 2, 3]))
  (.seq (.region [⟨(some 23), .call (.fn 14) [(.lit (.str [120, 32, 48, 49]))], none, []⟩, ⟨(some 22), .mv (.tmp 23), none, []⟩, ⟨(some 24), .extract (.tmp 22) 0, none, []⟩, ⟨(some 25), .extract (.tmp 22) 1, none, []⟩, ⟨(some 26), .extract (.tmp 22) 2, none, []⟩, ⟨(some 4), .mv (.tmp 24), none, []⟩, ⟨(some 5), .mv (.tmp 25), none, []⟩, ⟨(some 6), .mv (.tmp 26), none, []⟩] (some [1, 2, 3, 5, 6]))
  (.seq (.region [⟨(some 28), .build [(.int .i64 0), (.str []), (.int .i64 0), (.int .i64 0)] [(0, 1, (.lit (.int .i64 2))), (1, 1, (.lit (.str [67, 111, 110, 115])))], none, []⟩, ⟨(some 29), .build [(.int .i64 0), (.str []), (.int .i64 0), (.int .i64 0)] [(0, 1, (.lit (.int .i64 4))), (1, 1, (.lit (.str [40])))], none, []⟩, ⟨(some 30), .build [(.int .i64 0), (.str []), (.int .i64 0), (.int .i64 0)] [(0, 1, (.lit (.int .i64 3))), (2, 1, (.lit (.int .i64 7)))], none, []⟩, ⟨(some 31), .build [(.int .i64 0), (.str []), (.int .i64 0), (.int .i64 0)] [(0, 1, (.lit (.int .i64 4))), (1, 1, (.lit (.str [41])))], none, []⟩, ⟨(some 32), .buildSlice 4 4 [(.int .i64 0), (.str []), (.int .i64 0), (.int .i64 0)] [(0, (.tmp 28)), (1, (.tmp 29)), (2, (.tmp 30)), (3, (.tmp 31))], none, []⟩, ⟨(some 33), .call (.fn 18) [(.tmp 32)], none, []⟩, ⟨(some 27), .mv (.tmp 33), none, []⟩, ⟨(some 34), .extract (.tmp 27) 0, none, []⟩, ⟨(some 35), .extract (.tmp 27) 1, none, []⟩, ⟨(some 7), .mv (.tmp 34), none, []⟩, ⟨(some 8), .mv (.tmp 35), none, []⟩] (some [1, 2, 3, 5, 6, 7, 8]))
  (.seq (.region [⟨(some 37), .build [(.int .i64 0), (.str []), (.int .i64 0), (.int .i64 0)] [(0, 1, (.lit (.int .i64 0))), (1, 1, (.lit (.str [108, 101, 116])))], none, []⟩, ⟨(some 38), .buildSlice 4 1 [(.int .i64 0), (.str []), (.int .i64 0), (.int .i64 0)] [(0, (.tmp 37))], none, []⟩, ⟨(some 39), .call (.fn 18) [(.tmp 38)], none, []⟩, ⟨(some 36), .mv (.tmp 39), none, []⟩, ⟨(some 40), .extract (.tmp 36) 0, none, []⟩, ⟨(some 41), .extract (.tmp 36) 1, none, []⟩, ⟨(some 9), .mv (.tmp 40), none, []⟩, ⟨(some 10), .mv (.tmp 41), none, []⟩] (some [1, 2, 3, 5, 6, 7, 8, 10]))
  (.seq (.region [⟨(some 43), .call (.fn 20) [(.lit (.str [97, 98, 10, 99])), (.lit (.int .i64 4))], none, []⟩, ⟨(some 42), .mv (.tmp 43), none, []⟩, ⟨(some 44), .extract (.tmp 42) 0, none, []⟩, ⟨(some 45), .extract (.tmp 42) 1, none, []⟩, ⟨(some 46), .extract (.tmp 42) 2, none, []⟩, ⟨(some 11), .mv (.tmp 44), none, []⟩, ⟨(some 12), .mv (.tmp 45), none, []⟩, ⟨(some 13), .mv (.tmp 46), none, []⟩] (some [1, 2, 3, 5, 6, 7, 8, 10, 11, 12, 13]))
  (.seq (.region [⟨(some 48), .call (.fn 20) [(.lit (.str [97, 98, 10, 99])), (.lit (.int .i64 5))], none, []⟩, ⟨(some 47), .mv (.tmp 48), none, []⟩, ⟨(some 49), .extract (.tmp 47) 0, none, []⟩, ⟨(some 50), .extract (.tmp 47) 1, none, []⟩, ⟨(some 51), .extract (.tmp 47) 2, none, []⟩, ⟨(some 14), .mv (.tmp 49), none, []⟩, ⟨(some 15), .mv (.tmp 50), none, []⟩, ⟨(some 16), .mv (.tmp 51), none, []⟩] (some [1, 2, 3, 5, 6, 7, 8, 10, 11, 12, 13, 16]))
  (.seq (.region [⟨(some 52), .mv (.tmp 3), none, []⟩, ⟨(some 53), .arith .eql .none (.tmp 52) (.lit (.int .i64 0)), none, []⟩, ⟨(some 54), .mv (.tmp 53), none, []⟩, ⟨(some 55), .mv (.tmp 6), (some (54, true)), []⟩, ⟨(some 56), .arith .eql .none (.tmp 55) (.lit (.int .i64 2)), (some (54, true)), []⟩, ⟨(some 57), .pick (.tmp 54) (.tmp 56) (.lit (.bool false)), none, []⟩, ⟨(some 58), .mv (.tmp 57), none, []⟩, ⟨(some 59), .mv (.tmp 8), (some (58, true)), []⟩, ⟨(some 60), .arith .eql .none (.tmp 59) (.lit (.int .i64 0)), (some (58, true)), []⟩, ⟨(some 61), .pick (.tmp 58) (.tmp 60) (.lit (.bool false)), none, []⟩, ⟨(some 62), .mv (.tmp 61), none, []⟩, ⟨(some 63), .mv (.tmp 10), (some (62, true)), []⟩, ⟨(some 64), .arith .eql .none (.tmp 63) (.lit (.int .i64 1)), (some (62, true)), []⟩, ⟨(some 65), .pick (.tmp 62) (.tmp 64) (.lit (.bool false)), none, []⟩, ⟨(some 66), .mv (.tmp 65), none, []⟩, ⟨(some 67), .mv (.tmp 13), (some (66, true)), []⟩, ⟨(some 68), .arith .eql .none (.tmp 67) (.lit (.int .i64 0)), (some (66, true)), []⟩, ⟨(some 69), .pick (.tmp 66) (.tmp 68) (.lit (.bool false)), none, []⟩, ⟨(some 70), .mv (.tmp 69), none, []⟩, ⟨(some 71), .mv (.tmp 16), (some (70, true)), []⟩, ⟨(some 72), .arith .eql .none (.tmp 71) (.lit (.int .i64 1)), (some (70, true)), []⟩, ⟨(some 73), .pick (.tmp 70) (.tmp 72) (.lit (.bool false)), none, []⟩, ⟨(some 74), .mv (.tmp 73), none, []⟩, ⟨(some 75), .mv (.tmp 1), (some (74, true)), []⟩, ⟨(some 76), .call (.fn 40) [], (some (74, true)), []⟩, ⟨(some 77), .call (.fn 16) [(.tmp 75), (.tmp 76)], (some (74, true)), []⟩, ⟨(some 78), .pick (.tmp 74) (.tmp 77) (.lit (.bool false)), none, []⟩, ⟨(some 79), .mv (.tmp 78), none, []⟩, ⟨(some 80), .mv (.tmp 2), (some (79, true)), []⟩, ⟨(some 81), .arith .eql .none (.tmp 80) (.lit (.int .i64 0)), (some (79, true)), []⟩, ⟨(some 82), .pick (.tmp 79) (.tmp 81) (.lit (.bool false)), none, []⟩, ⟨(some 83), .mv (.tmp 82), none, []⟩, ⟨(some 84), .mv (.tmp 5), (some (83, true)), []⟩, ⟨(some 85), .arith .eql .none (.tmp 84) (.lit (.int .i64 2)), (some (83, true)), []⟩, ⟨(some 86), .pick (.tmp 83) (.tmp 85) (.lit (.bool false)), none, []⟩, ⟨(some 87), .mv (.tmp 86), none, []⟩, ⟨(some 88), .mv (.tmp 7), (some (87, true)), []⟩, ⟨(some 89), .arith .eql .none (.tmp 88) (.lit (.str [67, 111, 110, 115, 32, 40, 32, 55, 32, 41])), (some (87, true)), []⟩, ⟨(some 90), .pick (.tmp 87) (.tmp 89) (.lit (.bool false)), none, []⟩, ⟨(some 91), .mv (.tmp 90), none, []⟩, ⟨(some 92), .mv (.tmp 11), (some (91, true)), []⟩, ⟨(some 93), .arith .eql .none (.tmp 92) (.lit (.int .i64 2)), (some (91, true)), []⟩, ⟨(some 94), .pick (.tmp 91) (.tmp 93) (.lit (.bool false)), none, []⟩, ⟨(some 95), .mv (.tmp 94), none, []⟩, ⟨(some 96), .mv (.tmp 12), (some (95, true)), []⟩, ⟨(some 97), .arith .eql .none (.tmp 96) (.lit (.int .i64 2)), (some (95, true)), []⟩, ⟨(some 98), .pick (.tmp 95) (.tmp 97) (.lit (.bool false)), none, []⟩, ⟨(some 99), .mv (.tmp 98), none, []⟩, ⟨(some 100), .call (.fn 22) [(.lit (.int .i64 1000000000))], (some (99, true)), []⟩, ⟨(some 101), .arith .eql .none (.tmp 100) (.lit (.int .i64 (-999999999))), (some (99, true)), []⟩, ⟨(some 102), .pick (.tmp 99) (.tmp 101) (.lit (.bool false)), none, []⟩, ⟨(some 103), .mv (.tmp 102), none, []⟩, ⟨(some 104), .call (.fn 24) [(.lit (.int .i64 (-70)))], (some (103, true)), []⟩, ⟨(some 105), .arith .eql .none (.tmp 104) (.lit (.str [45, 55, 48])), (some (103, true)), []⟩, ⟨(some 106), .pick (.tmp 103) (.tmp 105) (.lit (.bool false)), none, []⟩, ⟨(some 107), .mv (.tmp 106), none, []⟩, ⟨(some 108), .call (.fn 26) [(.lit (.str [95]))], (some (107, true)), []⟩, ⟨(some 109), .pick (.tmp 107) (.tmp 108) (.lit (.bool false)), none, []⟩, ⟨(some 110), .mv (.tmp 109), none, []⟩, ⟨(some 111), .call (.fn 26) [(.lit (.str [105, 110]))], (some (110, true)), []⟩, ⟨(some 112), .not (.tmp 111), (some (110, true)), []⟩, ⟨(some 113), .pick (.tmp 110) (.tmp 112) (.lit (.bool false)), none, []⟩, ⟨(some 114), .mv (.tmp 113), none, []⟩, ⟨(some 115), .call (.fn 28) [(.lit (.str [82, 101, 116, 117, 114, 110]))], (some (114, true)), []⟩, ⟨(some 116), .pick (.tmp 114) (.tmp 115) (.lit (.bool false)), none, []⟩, ⟨(some 117), .mv (.tmp 116), none, []⟩, ⟨(some 118), .call (.fn 30) [(.lit (.str [114, 101, 116, 117, 114, 110]))], (some (117, true)), []⟩, ⟨(some 119), .pick (.tmp 117) (.tmp 118) (.lit (.bool false)), none, []⟩, ⟨(some 120), .mv (.tmp 119), none, []⟩, ⟨(some 121), .call (.fn 30) [(.lit (.str [120]))], (some (120, true)), []⟩, ⟨(some 122), .not (.tmp 121), (some (120, true)), []⟩, ⟨(some 123), .pick (.tmp 120) (.tmp 122) (.lit (.bool false)), none, []⟩, ⟨(some 0), .mv (.tmp 123), none, []⟩] (some [0]))
  .ret))))))))⟩
theorem cf17 : cFunc Tryd.prog (fun _ => false) (keepL keep17) Tryd.f17 = some af17 := by kernel_rfl
theorem good17 : Good Tryd.prog (17, af17) := ⟨_, _, _, Tryd.func17, cf17⟩
/-- reprise/lexer.Join -/
def keep18 : List (Nat × List Nat) := [(0, [0]), (1, [0, 4]), (2, [0, 4, 5]), (3, [4, 5, 18, 19, 20]), (4, [4, 5, 18, 19, 20, 21]), (5, [4, 5, 7, 18, 19, 20]), (6, [4, 5, 7, 8, 18, 19, 20]), (7, [4, 5, 7, 8, 18, 19, 20, 28]), (8, [4, 5, 7, 8, 18, 19, 20]), (9, [4, 5, 7, 8, 9, 10, 18, 19, 20]), (10, [4, 5, 7, 8, 9, 10, 18, 19, 20]), (11, [4, 5, 8, 18, 19, 20, 46]), (12, [2, 3]), (13, [4, 5, 8, 18, 19, 20]), (14, [4, 5, 18, 19, 20]), (15, [4, 5, 18, 19, 20]), (16, [4, 57]), (17, [2, 3]), (18, [2, 3])]
def lp18_0 : ACode :=
  (.seq (.region [⟨(some 21), .arith .lss .none (.tmp 20) (.tmp 19), none, []⟩] (some [4, 5, 18, 19, 20, 21]))
  (.seq (.cond (.tmp 21) .skip
  (.exit 0))
  (.seq (.block 1 (.seq (.region [⟨(some 22), .indexAddrS 4 (.tmp 18) (.tmp 20), none, []⟩, ⟨(some 23), .load true 4 (.tmp 22), none, []⟩, ⟨(some 7), .alloc [(.int .i64 0), (.str []), (.int .i64 0), (.int .i64 0)], none, []⟩, ⟨none, .store 4 (.tmp 7) (.tmp 23), none, []⟩] (some [4, 5, 7, 18, 19, 20]))
  (.seq (.region [⟨(some 24), .addOff 1 (.tmp 7), none, []⟩, ⟨(some 25), .load false 1 (.tmp 24), none, []⟩, ⟨(some 8), .mv (.tmp 25), none, []⟩] (some [4, 5, 7, 8, 18, 19, 20]))
  (.seq (.seq (.region [⟨(some 26), .addOff 0 (.tmp 7), none, []⟩, ⟨(some 27), .load false 1 (.tmp 26), none, []⟩, ⟨(some 28), .arith .eql .none (.tmp 27) (.lit (.int .i64 3)), none, []⟩] (some [4, 5, 7, 8, 18, 19, 20, 28]))
  (.cond (.tmp 28) (.region [⟨(some 29), .addOff 2 (.tmp 7), none, []⟩, ⟨(some 30), .load false 1 (.tmp 29), none, []⟩, ⟨(some 31), .call (.fn 24) [(.tmp 30)], none, []⟩, ⟨(some 8), .mv (.tmp 31), none, []⟩] (some [4, 5, 7, 8, 18, 19, 20]))
  .skip))
  (.seq (.region [⟨(some 33), .mv (.tmp 8), none, []⟩, ⟨(some 34), .call (.fn 41) [(.tmp 33)], none, []⟩, ⟨(some 32), .mv (.tmp 34), none, []⟩, ⟨(some 35), .extract (.tmp 32) 0, none, []⟩, ⟨(some 36), .extract (.tmp 32) 1, none, []⟩, ⟨(some 9), .alloc [(.int .i64 0), (.str []), (.int .i64 0), (.int .i64 0)], none, []⟩, ⟨none, .store 4 (.tmp 9) (.tmp 35), none, []⟩, ⟨(some 10), .mv (.tmp 36), none, []⟩] (some [4, 5, 7, 8, 9, 10, 18, 19, 20]))
  (.seq (.region [⟨(some 37), .addOff 3 (.tmp 7), none, []⟩, ⟨(some 38), .load false 1 (.tmp 37), none, []⟩, ⟨(some 39), .addOff 3 (.tmp 9), none, []⟩, ⟨none, .store 1 (.tmp 39) (.tmp 38), none, []⟩] (some [4, 5, 7, 8, 9, 10, 18, 19, 20]))
  (.seq (.seq (.region [⟨(some 40), .mv (.tmp 10), none, []⟩, ⟨(some 41), .not (.tmp 40), none, []⟩, ⟨(some 42), .mv (.tmp 41), none, []⟩, ⟨(some 43), .load true 4 (.tmp 9), (some (42, false)), []⟩, ⟨(some 44), .load true 4 (.tmp 7), (some (42, false)), []⟩, ⟨(some 45), .arith .neq (.agg [1, 2, 1, 1]) (.tmp 43) (.tmp 44), (some (42, false)), []⟩, ⟨(some 46), .pick (.tmp 42) (.lit (.bool true)) (.tmp 45), none, []⟩] (some [4, 5, 8, 18, 19, 20, 46]))
  (.cond (.tmp 46) (.seq (.region [⟨(some 2), .mv (.lit (.str [])), none, []⟩, ⟨(some 3), .mv (.lit (.int .i64 1)), none, []⟩] (some [2, 3]))
  .ret)
  .skip))
  (.seq (.region [⟨(some 47), .mv (.tmp 4), none, []⟩, ⟨(some 48), .mv (.tmp 8), none, []⟩, ⟨(some 49), .buildSlice 1 1 [(.str [])] [(0, (.tmp 48))], none, []⟩, ⟨(some 50), .append 1 16 (.tmp 47) (.tmp 49), none, []⟩, ⟨(some 4), .mv (.tmp 50), none, []⟩] (some [4, 5, 8, 18, 19, 20]))
  (.region [⟨(some 51), .mv (.tmp 5), none, []⟩, ⟨(some 52), .mv (.tmp 8), none, []⟩, ⟨(some 53), .len true (.tmp 52), none, []⟩, ⟨(some 54), .arith .add .none (.tmp 51) (.tmp 53), none, []⟩, ⟨(some 5), .mv (.tmp 54), none, []⟩] (some [4, 5, 18, 19, 20]))))))))))
  (.region [⟨(some 55), .arith .add .none (.tmp 20) (.lit (.int .i64 1)), none, []⟩, ⟨(some 20), .mv (.tmp 55), none, []⟩] (some [4, 5, 18, 19, 20])))))
def af18 : AFunc := ⟨60, 1, [.tmp 2, .tmp 3],
  (.seq (.region [⟨(some 2), .mv (.lit (.str [])), none, []⟩, ⟨(some 3), .mv (.lit (.int .i64 0)), none, []⟩] (some [0]))
  (.seq (.region [⟨(some 11), .mv (.tmp 0), none, []⟩, ⟨(some 12), .len false (.tmp 11), none, []⟩, ⟨(some 13), .mkSlice 1 16 (.str []) (.lit (.int .i64 0)) (.tmp 12), none, []⟩, ⟨(some 4), .mv (.tmp 13), none, []⟩] (some [0, 4]))
  (.seq (.region [⟨(some 14), .mv (.tmp 0), none, []⟩, ⟨(some 15), .len false (.tmp 14), none, []⟩, ⟨(some 16), .arith .sub .none (.tmp 15) (.lit (.int .i64 1)), none, []⟩, ⟨(some 17), .max2 [(.lit (.int .i64 0)), (.tmp 16)], none, []⟩, ⟨(some 5), .mv (.tmp 17), none, []⟩] (some [0, 4, 5]))
  (.seq (.seq (.region [⟨(some 18), .mv (.tmp 0), none, []⟩, ⟨(some 19), .len false (.tmp 18), none, []⟩, ⟨(some 20), .mv (.lit (.int .i64 0)), none, []⟩] (some [4, 5, 18, 19, 20]))
  (.block 0 (.loop lp18_0)))
  (.seq (.seq (.region [⟨(some 56), .mv (.tmp 5), none, []⟩, ⟨(some 57), .arith .gtr .none (.tmp 56) (.lit (.int .i64 30000)), none, []⟩] (some [4, 57]))
  (.cond (.tmp 57) (.seq (.region [⟨(some 2), .mv (.lit (.str [])), none, []⟩, ⟨(some 3), .mv (.lit (.int .i64 3)), none, []⟩] (some [2, 3]))
  .ret)
  .skip))
  (.seq (.region [⟨(some 58), .mv (.tmp 4), none, []⟩, ⟨(some 59), .call (.fn 42) [(.tmp 58)], none, []⟩, ⟨(some 2), .mv (.tmp 59), none, []⟩, ⟨(some 3), .mv (.lit (.int .i64 0)), none, []⟩] (some [2, 3]))
  .ret))))))⟩
theorem cf18 : cFunc Tryd.prog (fun _ => false) (keepL keep18) Tryd.f18 = some af18 := by kernel_rfl
theorem good18 : Good Tryd.prog (18, af18) := ⟨_, _, _, Tryd.func18, cf18⟩
/-- reprise/repriseref01.Join -/
def keep19 : List (Nat × List Nat) := [(0, [0]), (1, [0, 4]), (2, [0, 4, 5]), (3, [0, 4, 5, 11]), (5, [0, 4, 5, 19]), (6, [2, 3]), (7, [0, 4, 5]), (8, [0, 4, 5, 29]), (9, [0, 4, 5]), (4, [0, 4, 5]), (10, [0, 33]), (11, [2, 3]), (12, [0, 6]), (13, [0, 6, 7]), (14, [0, 6, 7, 37]), (16, [0, 6, 7, 41]), (17, [0, 6, 7]), (18, [0, 6, 7]), (15, [0, 6, 7]), (19, [2, 3])]
def lp19_0 : ACode :=
  (.seq (.seq (.region [⟨(some 8), .mv (.tmp 5), none, []⟩, ⟨(some 9), .mv (.tmp 0), none, []⟩, ⟨(some 10), .len false (.tmp 9), none, []⟩, ⟨(some 11), .arith .lss .none (.tmp 8) (.tmp 10), none, []⟩] (some [0, 4, 5, 11]))
  (.cond (.tmp 11) .skip
  (.exit 0)))
  (.seq (.block 1 (.seq (.seq (.region [⟨(some 14), .mv (.tmp 0), none, []⟩, ⟨(some 15), .mv (.tmp 5), none, []⟩, ⟨(some 16), .indexAddrS 4 (.tmp 14) (.tmp 15), none, []⟩, ⟨(some 17), .load true 4 (.tmp 16), none, []⟩, ⟨(some 18), .call (.fn 43) [(.tmp 17)], none, []⟩, ⟨(some 19), .not (.tmp 18), none, []⟩] (some [0, 4, 5, 19]))
  (.cond (.tmp 19) (.seq (.region [⟨(some 2), .mv (.lit (.str [])), none, []⟩, ⟨(some 3), .mv (.lit (.int .i64 1)), none, []⟩] (some [2, 3]))
  .ret)
  .skip))
  (.seq (.region [⟨(some 20), .mv (.tmp 4), none, []⟩, ⟨(some 21), .mv (.tmp 0), none, []⟩, ⟨(some 22), .mv (.tmp 5), none, []⟩, ⟨(some 23), .indexAddrS 4 (.tmp 21) (.tmp 22), none, []⟩, ⟨(some 24), .load true 4 (.tmp 23), none, []⟩, ⟨(some 25), .call (.fn 35) [(.tmp 24)], none, []⟩, ⟨(some 26), .len true (.tmp 25), none, []⟩, ⟨(some 27), .arith .add .none (.tmp 20) (.tmp 26), none, []⟩, ⟨(some 4), .mv (.tmp 27), none, []⟩] (some [0, 4, 5]))
  (.seq (.region [⟨(some 28), .mv (.tmp 5), none, []⟩, ⟨(some 29), .arith .gtr .none (.tmp 28) (.lit (.int .i64 0)), none, []⟩] (some [0, 4, 5, 29]))
  (.cond (.tmp 29) (.region [⟨(some 30), .mv (.tmp 4), none, []⟩, ⟨(some 31), .arith .add .none (.tmp 30) (.lit (.int .i64 1)), none, []⟩, ⟨(some 4), .mv (.tmp 31), none, []⟩] (some [0, 4, 5]))
  .skip)))))
  (.region [⟨(some 12), .mv (.tmp 5), none, []⟩, ⟨(some 13), .arith .add .none (.tmp 12) (.lit (.int .i64 1)), none, []⟩, ⟨(some 5), .mv (.tmp 13), none, []⟩] (some [0, 4, 5]))))
def lp19_1 : ACode :=
  (.seq (.seq (.region [⟨(some 34), .mv (.tmp 7), none, []⟩, ⟨(some 35), .mv (.tmp 0), none, []⟩, ⟨(some 36), .len false (.tmp 35), none, []⟩, ⟨(some 37), .arith .lss .none (.tmp 34) (.tmp 36), none, []⟩] (some [0, 6, 7, 37]))
  (.cond (.tmp 37) .skip
  (.exit 2)))
  (.seq (.block 3 (.seq (.seq (.region [⟨(some 40), .mv (.tmp 7), none, []⟩, ⟨(some 41), .arith .gtr .none (.tmp 40) (.lit (.int .i64 0)), none, []⟩] (some [0, 6, 7, 41]))
  (.cond (.tmp 41) (.region [⟨(some 42), .mv (.tmp 6), none, []⟩, ⟨(some 43), .arith .add .none (.tmp 42) (.lit (.str [32])), none, []⟩, ⟨(some 6), .mv (.tmp 43), none, []⟩] (some [0, 6, 7]))
  .skip))
  (.region [⟨(some 44), .mv (.tmp 6), none, []⟩, ⟨(some 45), .mv (.tmp 0), none, []⟩, ⟨(some 46), .mv (.tmp 7), none, []⟩, ⟨(some 47), .indexAddrS 4 (.tmp 45) (.tmp 46), none, []⟩, ⟨(some 48), .load true 4 (.tmp 47), none, []⟩, ⟨(some 49), .call (.fn 35) [(.tmp 48)], none, []⟩, ⟨(some 50), .arith .add .none (.tmp 44) (.tmp 49), none, []⟩, ⟨(some 6), .mv (.tmp 50), none, []⟩] (some [0, 6, 7]))))
  (.region [⟨(some 38), .mv (.tmp 7), none, []⟩, ⟨(some 39), .arith .add .none (.tmp 38) (.lit (.int .i64 1)), none, []⟩, ⟨(some 7), .mv (.tmp 39), none, []⟩] (some [0, 6, 7]))))
def af19 : AFunc := ⟨52, 1, [.tmp 2, .tmp 3],
  (.seq (.region [⟨(some 2), .mv (.lit (.str [])), none, []⟩, ⟨(some 3), .mv (.lit (.int .i64 0)), none, []⟩] (some [0]))
  (.seq (.region [⟨(some 4), .mv (.lit (.int .i64 0)), none, []⟩] (some [0, 4]))
  (.seq (.seq (.region [⟨(some 5), .mv (.lit (.int .i64 0)), none, []⟩] (some [0, 4, 5]))
  (.block 0 (.loop lp19_0)))
  (.seq (.seq (.region [⟨(some 32), .mv (.tmp 4), none, []⟩, ⟨(some 33), .arith .gtr .none (.tmp 32) (.lit (.int .i64 30000)), none, []⟩] (some [0, 33]))
  (.cond (.tmp 33) (.seq (.region [⟨(some 2), .mv (.lit (.str [])), none, []⟩, ⟨(some 3), .mv (.lit (.int .i64 3)), none, []⟩] (some [2, 3]))
  .ret)
  .skip))
  (.seq (.region [⟨(some 6), .mv (.lit (.str [])), none, []⟩] (some [0, 6]))
  (.seq (.seq (.region [⟨(some 7), .mv (.lit (.int .i64 0)), none, []⟩] (some [0, 6, 7]))
  (.block 2 (.loop lp19_1)))
  (.seq (.region [⟨(some 51), .mv (.tmp 6), none, []⟩, ⟨(some 2), .mv (.tmp 51), none, []⟩, ⟨(some 3), .mv (.lit (.int .i64 0)), none, []⟩] (some [2, 3]))
  .ret)))))))⟩
theorem cf19 : cFunc Tryd.prog (fun _ => false) (keepL keep19) Tryd.f19 = some af19 := by kernel_rfl
theorem good19 : Good Tryd.prog (19, af19) := ⟨_, _, _, Tryd.func19, cf19⟩
/-- reprise/lexer.Where -/
def keep20 : List (Nat × List Nat) := [(0, [0, 1]), (1, [0, 1, 15]), (2, [4, 5, 6]), (3, [1, 7]), (4, [4, 5, 6])]
def af20 : AFunc := ⟨26, 2, [.tmp 4, .tmp 5, .tmp 6],
  (.seq (.region [⟨(some 4), .mv (.lit (.int .i64 0)), none, []⟩, ⟨(some 5), .mv (.lit (.int .i64 0)), none, []⟩, ⟨(some 6), .mv (.lit (.int .i64 0)), none, []⟩] (some [0, 1]))
  (.seq (.seq (.region [⟨(some 8), .mv (.tmp 1), none, []⟩, ⟨(some 9), .arith .lss .none (.tmp 8) (.lit (.int .i64 0)), none, []⟩, ⟨(some 10), .mv (.tmp 9), none, []⟩, ⟨(some 11), .mv (.tmp 1), (some (10, false)), []⟩, ⟨(some 12), .mv (.tmp 0), (some (10, false)), []⟩, ⟨(some 13), .len true (.tmp 12), (some (10, false)), []⟩, ⟨(some 14), .arith .gtr .none (.tmp 11) (.tmp 13), (some (10, false)), []⟩, ⟨(some 15), .pick (.tmp 10) (.lit (.bool true)) (.tmp 14), none, []⟩] (some [0, 1, 15]))
  (.cond (.tmp 15) (.seq (.region [⟨(some 4), .mv (.lit (.int .i64 0)), none, []⟩, ⟨(some 5), .mv (.lit (.int .i64 0)), none, []⟩, ⟨(some 6), .mv (.lit (.int .i64 1)), none, []⟩] (some [4, 5, 6]))
  .ret)
  .skip))
  (.seq (.region [⟨(some 16), .mv (.tmp 0), none, []⟩, ⟨(some 17), .mv (.tmp 1), none, []⟩, ⟨(some 18), .sliceStr (.tmp 16) none (some (.tmp 17)), none, []⟩, ⟨(some 7), .mv (.tmp 18), none, []⟩] (some [1, 7]))
  (.seq (.region [⟨(some 19), .mv (.tmp 7), none, []⟩, ⟨(some 20), .call (.fn 44) [(.tmp 19), (.lit (.str [10]))], none, []⟩, ⟨(some 21), .arith .add .none (.lit (.int .i64 1)) (.tmp 20), none, []⟩, ⟨(some 22), .mv (.tmp 1), none, []⟩, ⟨(some 23), .mv (.tmp 7), none, []⟩, ⟨(some 24), .call (.fn 45) [(.tmp 23), (.lit (.int .u8 10))], none, []⟩, ⟨(some 25), .arith .sub .none (.tmp 22) (.tmp 24), none, []⟩, ⟨(some 4), .mv (.tmp 21), none, []⟩, ⟨(some 5), .mv (.tmp 25), none, []⟩, ⟨(some 6), .mv (.lit (.int .i64 0)), none, []⟩] (some [4, 5, 6]))
  .ret))))⟩
theorem cf20 : cFunc Tryd.prog (fun _ => false) (keepL keep20) Tryd.f20 = some af20 := by kernel_rfl
theorem good20 : Good Tryd.prog (20, af20) := ⟨_, _, _, Tryd.func20, cf20⟩
/-- reprise/repriseref01.Where -/
def keep21 : List (Nat × List Nat) := [(0, [0, 1]), (1, [0, 1, 14]), (2, [4, 5, 6]), (3, [0, 1, 7, 8]), (4, [0, 1, 7, 8, 9]), (5, [0, 1, 7, 8, 9, 17]), (7, [0, 1, 7, 8, 9]), (8, [0, 1, 7, 8, 9, 25]), (9, [0, 1, 7, 8, 9]), (6, [0, 1, 7, 8, 9]), (10, [4, 5, 6])]
def lp21_0 : ACode :=
  (.seq (.seq (.region [⟨(some 15), .mv (.tmp 9), none, []⟩, ⟨(some 16), .mv (.tmp 1), none, []⟩, ⟨(some 17), .arith .lss .none (.tmp 15) (.tmp 16), none, []⟩] (some [0, 1, 7, 8, 9, 17]))
  (.cond (.tmp 17) .skip
  (.exit 0)))
  (.seq (.block 1 (.seq (.region [⟨(some 20), .mv (.tmp 8), none, []⟩, ⟨(some 21), .arith .add .none (.tmp 20) (.lit (.int .i64 1)), none, []⟩, ⟨(some 8), .mv (.tmp 21), none, []⟩] (some [0, 1, 7, 8, 9]))
  (.seq (.region [⟨(some 22), .mv (.tmp 0), none, []⟩, ⟨(some 23), .mv (.tmp 9), none, []⟩, ⟨(some 24), .indexStr (.tmp 22) (.tmp 23), none, []⟩, ⟨(some 25), .arith .eql .none (.tmp 24) (.lit (.int .u8 10)), none, []⟩] (some [0, 1, 7, 8, 9, 25]))
  (.cond (.tmp 25) (.region [⟨(some 26), .mv (.tmp 7), none, []⟩, ⟨(some 27), .arith .add .none (.tmp 26) (.lit (.int .i64 1)), none, []⟩, ⟨(some 7), .mv (.tmp 27), none, []⟩, ⟨(some 8), .mv (.lit (.int .i64 1)), none, []⟩] (some [0, 1, 7, 8, 9]))
  .skip))))
  (.region [⟨(some 18), .mv (.tmp 9), none, []⟩, ⟨(some 19), .arith .add .none (.tmp 18) (.lit (.int .i64 1)), none, []⟩, ⟨(some 9), .mv (.tmp 19), none, []⟩] (some [0, 1, 7, 8, 9]))))
def af21 : AFunc := ⟨30, 2, [.tmp 4, .tmp 5, .tmp 6],
  (.seq (.region [⟨(some 4), .mv (.lit (.int .i64 0)), none, []⟩, ⟨(some 5), .mv (.lit (.int .i64 0)), none, []⟩, ⟨(some 6), .mv (.lit (.int .i64 0)), none, []⟩] (some [0, 1]))
  (.seq (.seq (.region [⟨(some 10), .mv (.tmp 1), none, []⟩, ⟨(some 11), .mv (.tmp 0), none, []⟩, ⟨(some 12), .len true (.tmp 11), none, []⟩, ⟨(some 13), .call (.fn 34) [(.tmp 10), (.lit (.int .i64 0)), (.tmp 12)], none, []⟩, ⟨(some 14), .not (.tmp 13), none, []⟩] (some [0, 1, 14]))
  (.cond (.tmp 14) (.seq (.region [⟨(some 4), .mv (.lit (.int .i64 0)), none, []⟩, ⟨(some 5), .mv (.lit (.int .i64 0)), none, []⟩, ⟨(some 6), .mv (.lit (.int .i64 1)), none, []⟩] (some [4, 5, 6]))
  .ret)
  .skip))
  (.seq (.region [⟨(some 7), .mv (.lit (.int .i64 1)), none, []⟩, ⟨(some 8), .mv (.lit (.int .i64 1)), none, []⟩] (some [0, 1, 7, 8]))
  (.seq (.seq (.region [⟨(some 9), .mv (.lit (.int .i64 0)), none, []⟩] (some [0, 1, 7, 8, 9]))
  (.block 0 (.loop lp21_0)))
  (.seq (.region [⟨(some 28), .mv (.tmp 7), none, []⟩, ⟨(some 29), .mv (.tmp 8), none, []⟩, ⟨(some 4), .mv (.tmp 28), none, []⟩, ⟨(some 5), .mv (.tmp 29), none, []⟩, ⟨(some 6), .mv (.lit (.int .i64 0)), none, []⟩] (some [4, 5, 6]))
  .ret)))))⟩
theorem cf21 : cFunc Tryd.prog (fun _ => false) (keepL keep21) Tryd.f21 = some af21 := by kernel_rfl
theorem good21 : Good Tryd.prog (21, af21) := ⟨_, _, _, Tryd.func21, cf21⟩
/-- reprise/lexer.Wrap -/
def keep22 : List (Nat × List Nat) := [(0, [0]), (1, [0]), (2, [0, 6]), (3, [2]), (4, [0, 10]), (5, [2]), (6, [2])]
def af22 : AFunc := ⟨14, 1, [.tmp 2],
  (.seq (.region [⟨(some 2), .mv (.lit (.int .i64 0)), none, []⟩] (some [0]))
  (.seq (.region [⟨(some 3), .mv (.tmp 0), none, []⟩, ⟨(some 4), .arith .rem .none (.tmp 3) (.lit (.int .i64 1999999999)), none, []⟩, ⟨(some 0), .mv (.tmp 4), none, []⟩] (some [0]))
  (.seq (.seq (.region [⟨(some 5), .mv (.tmp 0), none, []⟩, ⟨(some 6), .arith .lss .none (.tmp 5) (.lit (.int .i64 (-999999999))), none, []⟩] (some [0, 6]))
  (.cond (.tmp 6) (.seq (.region [⟨(some 7), .mv (.tmp 0), none, []⟩, ⟨(some 8), .arith .add .none (.tmp 7) (.lit (.int .i64 1999999999)), none, []⟩, ⟨(some 2), .mv (.tmp 8), none, []⟩] (some [2]))
  .ret)
  .skip))
  (.seq (.seq (.region [⟨(some 9), .mv (.tmp 0), none, []⟩, ⟨(some 10), .arith .gtr .none (.tmp 9) (.lit (.int .i64 999999999)), none, []⟩] (some [0, 10]))
  (.cond (.tmp 10) (.seq (.region [⟨(some 11), .mv (.tmp 0), none, []⟩, ⟨(some 12), .arith .sub .none (.tmp 11) (.lit (.int .i64 1999999999)), none, []⟩, ⟨(some 2), .mv (.tmp 12), none, []⟩] (some [2]))
  .ret)
  .skip))
  (.seq (.region [⟨(some 13), .mv (.tmp 0), none, []⟩, ⟨(some 2), .mv (.tmp 13), none, []⟩] (some [2]))
  .ret)))))⟩
theorem cf22 : cFunc Tryd.prog (fun _ => false) (keepL keep22) Tryd.f22 = some af22 := by kernel_rfl
theorem good22 : Good Tryd.prog (22, af22) := ⟨_, _, _, Tryd.func22, cf22⟩
/-- reprise/repriseref01.Wrap -/
def keep23 : List (Nat × List Nat) := [(0, [0]), (1, [3]), (2, [3, 7]), (3, [2]), (4, [3, 11]), (5, [2]), (6, [2])]
def af23 : AFunc := ⟨15, 1, [.tmp 2],
  (.seq (.region [⟨(some 2), .mv (.lit (.int .i64 0)), none, []⟩] (some [0]))
  (.seq (.region [⟨(some 4), .mv (.tmp 0), none, []⟩, ⟨(some 5), .arith .rem .none (.tmp 4) (.lit (.int .i64 1999999999)), none, []⟩, ⟨(some 3), .mv (.tmp 5), none, []⟩] (some [3]))
  (.seq (.seq (.region [⟨(some 6), .mv (.tmp 3), none, []⟩, ⟨(some 7), .arith .gtr .none (.tmp 6) (.lit (.int .i64 999999999)), none, []⟩] (some [3, 7]))
  (.cond (.tmp 7) (.seq (.region [⟨(some 8), .mv (.tmp 3), none, []⟩, ⟨(some 9), .arith .sub .none (.tmp 8) (.lit (.int .i64 1999999999)), none, []⟩, ⟨(some 2), .mv (.tmp 9), none, []⟩] (some [2]))
  .ret)
  .skip))
  (.seq (.seq (.region [⟨(some 10), .mv (.tmp 3), none, []⟩, ⟨(some 11), .arith .lss .none (.tmp 10) (.lit (.int .i64 (-999999999))), none, []⟩] (some [3, 11]))
  (.cond (.tmp 11) (.seq (.region [⟨(some 12), .mv (.tmp 3), none, []⟩, ⟨(some 13), .arith .add .none (.tmp 12) (.lit (.int .i64 1999999999)), none, []⟩, ⟨(some 2), .mv (.tmp 13), none, []⟩] (some [2]))
  .ret)
  .skip))
  (.seq (.region [⟨(some 14), .mv (.tmp 3), none, []⟩, ⟨(some 2), .mv (.tmp 14), none, []⟩] (some [2]))
  .ret)))))⟩
theorem cf23 : cFunc Tryd.prog (fun _ => false) (keepL keep23) Tryd.f23 = some af23 := by kernel_rfl
theorem good23 : Good Tryd.prog (23, af23) := ⟨_, _, _, Tryd.func23, cf23⟩
/-- reprise/lexer.Digits -/
def keep24 : List (Nat × List Nat) := [(0, [0]), (1, [2])]
def af24 : AFunc := ⟨5, 1, [.tmp 2],
  (.seq (.region [⟨(some 2), .mv (.lit (.str [])), none, []⟩] (some [0]))
  (.seq (.region [⟨(some 3), .mv (.tmp 0), none, []⟩, ⟨(some 4), .call (.fn 46) [(.tmp 3)], none, []⟩, ⟨(some 2), .mv (.tmp 4), none, []⟩] (some [2]))
  .ret))⟩
theorem cf24 : cFunc Tryd.prog (fun _ => false) (keepL keep24) Tryd.f24 = some af24 := by kernel_rfl
theorem good24 : Good Tryd.prog (24, af24) := ⟨_, _, _, Tryd.func24, cf24⟩
/-- reprise/repriseref01.Digits -/
def keep25 : List (Nat × List Nat) := [(0, [0]), (1, [0, 4]), (2, [0, 6]), (3, [2]), (4, [2]), (5, [0, 20]), (6, [2]), (7, [2])]
def af25 : AFunc := ⟨32, 1, [.tmp 2],
  (.seq (.region [⟨(some 2), .mv (.lit (.str [])), none, []⟩] (some [0]))
  (.seq (.seq (.region [⟨(some 3), .mv (.tmp 0), none, []⟩, ⟨(some 4), .arith .lss .none (.tmp 3) (.lit (.int .i64 0)), none, []⟩] (some [0, 4]))
  (.cond (.tmp 4) (.seq (.seq (.region [⟨(some 5), .mv (.tmp 0), none, []⟩, ⟨(some 6), .arith .gtr .none (.tmp 5) (.lit (.int .i64 (-10))), none, []⟩] (some [0, 6]))
  (.cond (.tmp 6) (.seq (.region [⟨(some 7), .mv (.tmp 0), none, []⟩, ⟨(some 8), .neg (.tmp 7), none, []⟩, ⟨(some 9), .call (.fn 25) [(.tmp 8)], none, []⟩, ⟨(some 10), .arith .add .none (.lit (.str [45])) (.tmp 9), none, []⟩, ⟨(some 2), .mv (.tmp 10), none, []⟩] (some [2]))
  .ret)
  .skip))
  (.seq (.region [⟨(some 11), .mv (.tmp 0), none, []⟩, ⟨(some 12), .arith .quo .none (.tmp 11) (.lit (.int .i64 10)), none, []⟩, ⟨(some 13), .call (.fn 25) [(.tmp 12)], none, []⟩, ⟨(some 14), .mv (.tmp 0), none, []⟩, ⟨(some 15), .arith .rem .none (.tmp 14) (.lit (.int .i64 10)), none, []⟩, ⟨(some 16), .neg (.tmp 15), none, []⟩, ⟨(some 17), .call (.fn 25) [(.tmp 16)], none, []⟩, ⟨(some 18), .arith .add .none (.tmp 13) (.tmp 17), none, []⟩, ⟨(some 2), .mv (.tmp 18), none, []⟩] (some [2]))
  .ret))
  .skip))
  (.seq (.seq (.region [⟨(some 19), .mv (.tmp 0), none, []⟩, ⟨(some 20), .arith .lss .none (.tmp 19) (.lit (.int .i64 10)), none, []⟩] (some [0, 20]))
  (.cond (.tmp 20) (.seq (.region [⟨(some 21), .mv (.tmp 0), none, []⟩, ⟨(some 22), .arith .add .none (.lit (.int .i64 48)) (.tmp 21), none, []⟩, ⟨(some 23), .toInt .i32 (.tmp 22), none, []⟩, ⟨(some 24), .toStr (.tmp 23), none, []⟩, ⟨(some 2), .mv (.tmp 24), none, []⟩] (some [2]))
  .ret)
  .skip))
  (.seq (.region [⟨(some 25), .mv (.tmp 0), none, []⟩, ⟨(some 26), .arith .quo .none (.tmp 25) (.lit (.int .i64 10)), none, []⟩, ⟨(some 27), .call (.fn 25) [(.tmp 26)], none, []⟩, ⟨(some 28), .mv (.tmp 0), none, []⟩, ⟨(some 29), .arith .rem .none (.tmp 28) (.lit (.int .i64 10)), none, []⟩, ⟨(some 30), .call (.fn 25) [(.tmp 29)], none, []⟩, ⟨(some 31), .arith .add .none (.tmp 27) (.tmp 30), none, []⟩, ⟨(some 2), .mv (.tmp 31), none, []⟩] (some [2]))
  .ret))))⟩
theorem cf25 : cFunc Tryd.prog (fun _ => false) (keepL keep25) Tryd.f25 = some af25 := by kernel_rfl
theorem good25 : Good Tryd.prog (25, af25) := ⟨_, _, _, Tryd.func25, cf25⟩
/-- reprise/lexer.IsVar -/
def keep26 : List (Nat × List Nat) := [(0, [0]), (1, [2])]
def af26 : AFunc := ⟨10, 1, [.tmp 2],
  (.seq (.region [⟨(some 2), .mv (.lit (.bool false)), none, []⟩] (some [0]))
  (.seq (.region [⟨(some 3), .mv (.tmp 0), none, []⟩, ⟨(some 4), .call (.fn 47) [(.tmp 3), (.lit (.int .i64 2))], none, []⟩, ⟨(some 5), .mv (.tmp 4), none, []⟩, ⟨(some 6), .mv (.tmp 0), (some (5, true)), []⟩, ⟨(some 7), .call (.fn 30) [(.tmp 6)], (some (5, true)), []⟩, ⟨(some 8), .not (.tmp 7), (some (5, true)), []⟩, ⟨(some 9), .pick (.tmp 5) (.tmp 8) (.lit (.bool false)), none, []⟩, ⟨(some 2), .mv (.tmp 9), none, []⟩] (some [2]))
  .ret))⟩
theorem cf26 : cFunc Tryd.prog (fun _ => false) (keepL keep26) Tryd.f26 = some af26 := by kernel_rfl
theorem good26 : Good Tryd.prog (26, af26) := ⟨_, _, _, Tryd.func26, cf26⟩
/-- reprise/repriseref01.IsVar -/
def keep27 : List (Nat × List Nat) := [(0, [0]), (1, [2])]
def af27 : AFunc := ⟨11, 1, [.tmp 2],
  (.seq (.region [⟨(some 2), .mv (.lit (.bool false)), none, []⟩] (some [0]))
  (.seq (.region [⟨(some 3), .mv (.tmp 0), none, []⟩, ⟨(some 4), .call (.fn 48) [(.tmp 3), (.lit (.int .u8 97)), (.lit (.int .u8 122)), (.lit (.bool true))], none, []⟩, ⟨(some 5), .mv (.tmp 4), none, []⟩, ⟨(some 6), .call (.fn 32) [], (some (5, true)), []⟩, ⟨(some 7), .mv (.tmp 0), (some (5, true)), []⟩, ⟨(some 8), .call (.fn 31) [(.tmp 6), (.tmp 7)], (some (5, true)), []⟩, ⟨(some 9), .not (.tmp 8), (some (5, true)), []⟩, ⟨(some 10), .pick (.tmp 5) (.tmp 9) (.lit (.bool false)), none, []⟩, ⟨(some 2), .mv (.tmp 10), none, []⟩] (some [2]))
  .ret))⟩
theorem cf27 : cFunc Tryd.prog (fun _ => false) (keepL keep27) Tryd.f27 = some af27 := by kernel_rfl
theorem good27 : Good Tryd.prog (27, af27) := ⟨_, _, _, Tryd.func27, cf27⟩
/-- reprise/lexer.IsUpper -/
def keep28 : List (Nat × List Nat) := [(0, [0]), (1, [2])]
def af28 : AFunc := ⟨5, 1, [.tmp 2],
  (.seq (.region [⟨(some 2), .mv (.lit (.bool false)), none, []⟩] (some [0]))
  (.seq (.region [⟨(some 3), .mv (.tmp 0), none, []⟩, ⟨(some 4), .call (.fn 47) [(.tmp 3), (.lit (.int .i64 3))], none, []⟩, ⟨(some 2), .mv (.tmp 4), none, []⟩] (some [2]))
  .ret))⟩
theorem cf28 : cFunc Tryd.prog (fun _ => false) (keepL keep28) Tryd.f28 = some af28 := by kernel_rfl
theorem good28 : Good Tryd.prog (28, af28) := ⟨_, _, _, Tryd.func28, cf28⟩
/-- reprise/repriseref01.IsUpper -/
def keep29 : List (Nat × List Nat) := [(0, [0]), (1, [2])]
def af29 : AFunc := ⟨5, 1, [.tmp 2],
  (.seq (.region [⟨(some 2), .mv (.lit (.bool false)), none, []⟩] (some [0]))
  (.seq (.region [⟨(some 3), .mv (.tmp 0), none, []⟩, ⟨(some 4), .call (.fn 48) [(.tmp 3), (.lit (.int .u8 65)), (.lit (.int .u8 90)), (.lit (.bool false))], none, []⟩, ⟨(some 2), .mv (.tmp 4), none, []⟩] (some [2]))
  .ret))⟩
theorem cf29 : cFunc Tryd.prog (fun _ => false) (keepL keep29) Tryd.f29 = some af29 := by kernel_rfl
theorem good29 : Good Tryd.prog (29, af29) := ⟨_, _, _, Tryd.func29, cf29⟩
/-- reprise/lexer.Keyword -/
def keep30 : List (Nat × List Nat) := [(0, [0]), (1, [4]), (2, [2])]
def af30 : AFunc := ⟨12, 1, [.tmp 2],
  (.seq (.region [⟨(some 2), .mv (.lit (.bool false)), none, []⟩] (some [0]))
  (.seq (.region [⟨(some 6), .call (.fn 49) [], none, []⟩, ⟨(some 7), .mv (.tmp 0), none, []⟩, ⟨(some 8), .lookup 2 (.int .i64 0) true (.tmp 6) (.tmp 7), none, []⟩, ⟨(some 5), .mv (.tmp 8), none, []⟩, ⟨(some 9), .extract (.tmp 5) 0, none, []⟩, ⟨(some 10), .extract (.tmp 5) 1, none, []⟩, ⟨(some 3), .mv (.tmp 9), none, []⟩, ⟨(some 4), .mv (.tmp 10), none, []⟩] (some [4]))
  (.seq (.region [⟨(some 11), .mv (.tmp 4), none, []⟩, ⟨(some 2), .mv (.tmp 11), none, []⟩] (some [2]))
  .ret)))⟩
theorem cf30 : cFunc Tryd.prog (fun _ => false) (keepL keep30) Tryd.f30 = some af30 := by kernel_rfl
theorem good30 : Good Tryd.prog (30, af30) := ⟨_, _, _, Tryd.func30, cf30⟩
/-- reprise/repriseref01.Has -/
def keep31 : List (Nat × List Nat) := [(0, [0, 1]), (1, [4])]
def af31 : AFunc := ⟨9, 2, [.tmp 4],
  (.seq (.region [⟨(some 4), .mv (.lit (.bool false)), none, []⟩] (some [0, 1]))
  (.seq (.region [⟨(some 5), .mv (.tmp 0), none, []⟩, ⟨(some 6), .mv (.tmp 1), none, []⟩, ⟨(some 7), .call (.fn 50) [(.tmp 5), (.tmp 6)], none, []⟩, ⟨(some 8), .arith .geq .none (.tmp 7) (.lit (.int .i64 0)), none, []⟩, ⟨(some 4), .mv (.tmp 8), none, []⟩] (some [4]))
  .ret))⟩
theorem cf31 : cFunc Tryd.prog (fun _ => false) (keepL keep31) Tryd.f31 = some af31 := by kernel_rfl
theorem good31 : Good Tryd.prog (31, af31) := ⟨_, _, _, Tryd.func31, cf31⟩
/-- reprise/repriseref01.Keywords -/
def keep32 : List (Nat × List Nat) := [(0, []), (1, [0])]
def af32 : AFunc := ⟨2, 0, [.tmp 0],
  (.seq (.region [⟨(some 0), .mv (.lit .empty), none, []⟩] (some []))
  (.seq (.region [⟨(some 1), .buildSlice 1 25 [(.str [])] [(0, (.lit (.str [102, 117, 110]))), (1, (.lit (.str [108, 101, 116]))), (2, (.lit (.str [114, 101, 99]))), (3, (.lit (.str [105, 110]))), (4, (.lit (.str [105, 102]))), (5, (.lit (.str [116, 104, 101, 110]))), (6, (.lit (.str [101, 108, 115, 101]))), (7, (.lit (.str [109, 97, 116, 99, 104]))), (8, (.lit (.str [100, 111]))), (9, (.lit (.str [104, 97, 110, 100, 108, 101]))), (10, (.lit (.str [115, 104, 97, 108, 108, 111, 119]))), (11, (.lit (.str [110, 97, 109, 101, 100]))), (12, (.lit (.str [109, 97, 115, 107]))), (13, (.lit (.str [117, 115, 105, 110, 103]))), (14, (.lit (.str [99, 108, 111, 115, 101]))), (15, (.lit (.str [114, 101, 115, 117, 109, 101]))), (16, (.lit (.str [100, 114, 111, 112]))), (17, (.lit (.str [114, 101, 116, 117, 114, 110]))), (18, (.lit (.str [116, 114, 117, 101]))), (19, (.lit (.str [102, 97, 108, 115, 101]))), (20, (.lit (.str [100, 97, 116, 97]))), (21, (.lit (.str [101, 102, 102, 101, 99, 116]))), (22, (.lit (.str [111, 110, 99, 101]))), (23, (.lit (.str [100, 101, 102]))), (24, (.lit (.str [109, 97, 105, 110])))], none, []⟩, ⟨(some 0), .mv (.tmp 1), none, []⟩] (some [0]))
  .ret))⟩
theorem cf32 : cFunc Tryd.prog (fun _ => false) (keepL keep32) Tryd.f32 = some af32 := by kernel_rfl
theorem good32 : Good Tryd.prog (32, af32) := ⟨_, _, _, Tryd.func32, cf32⟩
/-- reprise/repriselaw01.Alike -/
def keep33 : List (Nat × List Nat) := [(0, [0, 1]), (1, [0, 1, 5]), (2, [0, 1, 5, 6]), (3, [0, 1, 5, 6, 18]), (5, [0, 1, 5, 6]), (4, [0, 1, 5, 6]), (6, [4])]
def lp33_0 : ACode :=
  (.seq (.seq (.region [⟨(some 12), .mv (.tmp 6), none, []⟩, ⟨(some 13), .mv (.tmp 0), none, []⟩, ⟨(some 14), .len false (.tmp 13), none, []⟩, ⟨(some 15), .arith .lss .none (.tmp 12) (.tmp 14), none, []⟩, ⟨(some 16), .mv (.tmp 15), none, []⟩, ⟨(some 17), .mv (.tmp 5), (some (16, true)), []⟩, ⟨(some 18), .pick (.tmp 16) (.tmp 17) (.lit (.bool false)), none, []⟩] (some [0, 1, 5, 6, 18]))
  (.cond (.tmp 18) .skip
  (.exit 0)))
  (.seq (.block 1 (.drawn [⟨(some 21), .mv (.tmp 0), none, [0]⟩, ⟨(some 22), .mv (.tmp 6), none, [6]⟩, ⟨(some 23), .indexAddrS 4 (.tmp 21) (.tmp 22), none, [21, 22]⟩, ⟨(some 24), .addOff 0 (.tmp 23), none, [23]⟩, ⟨(some 25), .load false 1 (.tmp 24), none, [24]⟩, ⟨(some 26), .mv (.tmp 1), none, [1]⟩, ⟨(some 27), .mv (.tmp 6), none, [6]⟩, ⟨(some 28), .indexAddrS 4 (.tmp 26) (.tmp 27), none, [26, 27]⟩, ⟨(some 29), .addOff 0 (.tmp 28), none, [28]⟩, ⟨(some 30), .load false 1 (.tmp 29), none, [29]⟩, ⟨(some 31), .arith .eql .none (.tmp 25) (.tmp 30), none, [25, 30]⟩, ⟨(some 32), .mv (.tmp 31), none, [31]⟩, ⟨(some 33), .mv (.tmp 0), (some (32, true)), [0, 32]⟩, ⟨(some 34), .mv (.tmp 6), (some (32, true)), [6, 32]⟩, ⟨(some 35), .indexAddrS 4 (.tmp 33) (.tmp 34), (some (32, true)), [33, 34, 32]⟩, ⟨(some 36), .addOff 1 (.tmp 35), (some (32, true)), [35, 32]⟩, ⟨(some 37), .load false 1 (.tmp 36), (some (32, true)), [36, 32]⟩, ⟨(some 38), .mv (.tmp 1), (some (32, true)), [1, 32]⟩, ⟨(some 39), .mv (.tmp 6), (some (32, true)), [6, 32]⟩, ⟨(some 40), .indexAddrS 4 (.tmp 38) (.tmp 39), (some (32, true)), [38, 39, 32]⟩, ⟨(some 41), .addOff 1 (.tmp 40), (some (32, true)), [40, 32]⟩, ⟨(some 42), .load false 1 (.tmp 41), (some (32, true)), [41, 32]⟩, ⟨(some 43), .arith .eql .none (.tmp 37) (.tmp 42), (some (32, true)), [37, 42, 32]⟩, ⟨(some 44), .pick (.tmp 32) (.tmp 43) (.lit (.bool false)), none, [32, 43]⟩, ⟨(some 45), .mv (.tmp 44), none, [44]⟩, ⟨(some 46), .mv (.tmp 0), (some (45, true)), [0, 45]⟩, ⟨(some 47), .mv (.tmp 6), (some (45, true)), [6, 45]⟩, ⟨(some 48), .indexAddrS 4 (.tmp 46) (.tmp 47), (some (45, true)), [46, 47, 45]⟩, ⟨(some 49), .addOff 2 (.tmp 48), (some (45, true)), [48, 45]⟩, ⟨(some 50), .load false 1 (.tmp 49), (some (45, true)), [49, 45]⟩, ⟨(some 51), .mv (.tmp 1), (some (45, true)), [1, 45]⟩, ⟨(some 52), .mv (.tmp 6), (some (45, true)), [6, 45]⟩, ⟨(some 53), .indexAddrS 4 (.tmp 51) (.tmp 52), (some (45, true)), [51, 52, 45]⟩, ⟨(some 54), .addOff 2 (.tmp 53), (some (45, true)), [53, 45]⟩, ⟨(some 55), .load false 1 (.tmp 54), (some (45, true)), [54, 45]⟩, ⟨(some 56), .arith .eql .none (.tmp 50) (.tmp 55), (some (45, true)), [50, 55, 45]⟩, ⟨(some 57), .pick (.tmp 45) (.tmp 56) (.lit (.bool false)), none, [45, 56]⟩, ⟨(some 5), .mv (.tmp 57), none, [57]⟩] [0, 0, 3, 7, 15, 0, 0, 96, 224, 480, 1023, 2047, 4095, 4095, 16383, 32767, 65535, 4095, 4095, 397311, 921599, 1970175, 4194303, 8388607, 16777215, 33554431, 33554431, 134217727, 268435455, 536870911, 33554431, 33554431, 3254779903, 7549747199, 16139681791, 34359738367, 68719476735, 137438953471] (some [0, 1, 5, 6])))
  (.region [⟨(some 19), .mv (.tmp 6), none, []⟩, ⟨(some 20), .arith .add .none (.tmp 19) (.lit (.int .i64 1)), none, []⟩, ⟨(some 6), .mv (.tmp 20), none, []⟩] (some [0, 1, 5, 6]))))
def af33 : AFunc := ⟨59, 2, [.tmp 4],
  (.seq (.region [⟨(some 4), .mv (.lit (.bool false)), none, []⟩] (some [0, 1]))
  (.seq (.region [⟨(some 7), .mv (.tmp 0), none, []⟩, ⟨(some 8), .len false (.tmp 7), none, []⟩, ⟨(some 9), .mv (.tmp 1), none, []⟩, ⟨(some 10), .len false (.tmp 9), none, []⟩, ⟨(some 11), .arith .eql .none (.tmp 8) (.tmp 10), none, []⟩, ⟨(some 5), .mv (.tmp 11), none, []⟩] (some [0, 1, 5]))
  (.seq (.seq (.region [⟨(some 6), .mv (.lit (.int .i64 0)), none, []⟩] (some [0, 1, 5, 6]))
  (.block 0 (.loop lp33_0)))
  (.seq (.region [⟨(some 58), .mv (.tmp 5), none, []⟩, ⟨(some 4), .mv (.tmp 58), none, []⟩] (some [4]))
  .ret))))⟩
theorem cf33 : cFunc Tryd.prog (fun _ => false) (keepL keep33) Tryd.f33 = some af33 := by kernel_rfl
theorem good33 : Good Tryd.prog (33, af33) := ⟨_, _, _, Tryd.func33, cf33⟩
/-- reprise/repriseref01.In -/
def keep34 : List (Nat × List Nat) := [(0, [0, 1, 2]), (1, [6])]
def af34 : AFunc := ⟨15, 3, [.tmp 6],
  (.seq (.region [⟨(some 6), .mv (.lit (.bool false)), none, []⟩] (some [0, 1, 2]))
  (.seq (.region [⟨(some 7), .mv (.tmp 1), none, []⟩, ⟨(some 8), .mv (.tmp 0), none, []⟩, ⟨(some 9), .arith .leq .none (.tmp 7) (.tmp 8), none, []⟩, ⟨(some 10), .mv (.tmp 9), none, []⟩, ⟨(some 11), .mv (.tmp 0), (some (10, true)), []⟩, ⟨(some 12), .mv (.tmp 2), (some (10, true)), []⟩, ⟨(some 13), .arith .leq .none (.tmp 11) (.tmp 12), (some (10, true)), []⟩, ⟨(some 14), .pick (.tmp 10) (.tmp 13) (.lit (.bool false)), none, []⟩, ⟨(some 6), .mv (.tmp 14), none, []⟩] (some [6]))
  .ret))⟩
theorem cf34 : cFunc Tryd.prog (fun _ => false) (keepL keep34) Tryd.f34 = some af34 := by kernel_rfl
theorem good34 : Good Tryd.prog (34, af34) := ⟨_, _, _, Tryd.func34, cf34⟩
/-- reprise/repriseref01.Text -/
def keep35 : List (Nat × List Nat) := [(0, [1]), (1, [1, 5]), (2, [2]), (3, [2])]
def af35 : AFunc := ⟨11, 1, [.tmp 2],
  (.seq (.region [⟨(some 1), .box (.tmp 0), none, []⟩, ⟨(some 2), .mv (.lit (.str [])), none, []⟩] (some [1]))
  (.seq (.seq (.region [⟨(some 3), .addOff 0 (.tmp 1), none, []⟩, ⟨(some 4), .load false 1 (.tmp 3), none, []⟩, ⟨(some 5), .arith .eql .none (.tmp 4) (.lit (.int .i64 3)), none, []⟩] (some [1, 5]))
  (.cond (.tmp 5) (.seq (.region [⟨(some 6), .addOff 2 (.tmp 1), none, []⟩, ⟨(some 7), .load false 1 (.tmp 6), none, []⟩, ⟨(some 8), .call (.fn 25) [(.tmp 7)], none, []⟩, ⟨(some 2), .mv (.tmp 8), none, []⟩] (some [2]))
  .ret)
  .skip))
  (.seq (.region [⟨(some 9), .addOff 1 (.tmp 1), none, []⟩, ⟨(some 10), .load false 1 (.tmp 9), none, []⟩, ⟨(some 2), .mv (.tmp 10), none, []⟩] (some [2]))
  .ret)))⟩
theorem cf35 : cFunc Tryd.prog (fun _ => false) (keepL keep35) Tryd.f35 = some af35 := by kernel_rfl
theorem good35 : Good Tryd.prog (35, af35) := ⟨_, _, _, Tryd.func35, cf35⟩
/-- reprise/repriseref01.Space -/
def keep36 : List (Nat × List Nat) := [(0, [0, 1]), (1, [0, 1, 5, 6]), (2, [0, 1, 5, 6, 13]), (3, [0, 1, 5, 6, 7]), (4, [0, 1, 5, 6, 7]), (5, [0, 1, 5, 6, 34]), (6, [4]), (7, [0, 1, 5, 6]), (8, [4])]
def lp36_0 : ACode :=
  (.seq (.seq (.region [⟨(some 8), .mv (.tmp 1), none, []⟩, ⟨(some 9), .mv (.tmp 5), none, []⟩, ⟨(some 10), .arith .add .none (.tmp 8) (.tmp 9), none, []⟩, ⟨(some 11), .mv (.tmp 0), none, []⟩, ⟨(some 12), .len true (.tmp 11), none, []⟩, ⟨(some 13), .arith .lss .none (.tmp 10) (.tmp 12), none, []⟩] (some [0, 1, 5, 6, 13]))
  (.cond (.tmp 13) .skip
  (.exit 0)))
  (.block 1 (.seq (.region [⟨(some 14), .mv (.tmp 0), none, []⟩, ⟨(some 15), .mv (.tmp 1), none, []⟩, ⟨(some 16), .mv (.tmp 5), none, []⟩, ⟨(some 17), .arith .add .none (.tmp 15) (.tmp 16), none, []⟩, ⟨(some 18), .indexStr (.tmp 14) (.tmp 17), none, []⟩, ⟨(some 7), .mv (.tmp 18), none, []⟩] (some [0, 1, 5, 6, 7]))
  (.seq (.region [⟨(some 19), .mv (.tmp 7), none, []⟩, ⟨(some 20), .arith .neq .none (.tmp 19) (.lit (.int .u8 10)), none, []⟩, ⟨(some 21), .mv (.tmp 20), none, []⟩, ⟨(some 22), .mv (.tmp 6), (some (21, true)), []⟩, ⟨(some 23), .mv (.tmp 22), (some (21, true)), []⟩, ⟨(some 24), .mv (.tmp 7), (some (23, false)), []⟩, ⟨(some 25), .arith .eql .none (.tmp 24) (.lit (.int .u8 35)), (some (23, false)), []⟩, ⟨(some 26), .pick (.tmp 23) (.lit (.bool true)) (.tmp 25), (some (21, true)), []⟩, ⟨(some 27), .pick (.tmp 21) (.tmp 26) (.lit (.bool false)), none, []⟩, ⟨(some 6), .mv (.tmp 27), none, []⟩] (some [0, 1, 5, 6, 7]))
  (.seq (.seq (.region [⟨(some 28), .mv (.tmp 6), none, []⟩, ⟨(some 29), .not (.tmp 28), none, []⟩, ⟨(some 30), .mv (.tmp 29), none, []⟩, ⟨(some 31), .mv (.tmp 7), (some (30, true)), []⟩, ⟨(some 32), .call (.fn 51) [(.tmp 31)], (some (30, true)), []⟩, ⟨(some 33), .not (.tmp 32), (some (30, true)), []⟩, ⟨(some 34), .pick (.tmp 30) (.tmp 33) (.lit (.bool false)), none, []⟩] (some [0, 1, 5, 6, 34]))
  (.cond (.tmp 34) (.seq (.region [⟨(some 35), .mv (.tmp 5), none, []⟩, ⟨(some 4), .mv (.tmp 35), none, []⟩] (some [4]))
  .ret)
  .skip))
  (.region [⟨(some 36), .mv (.tmp 5), none, []⟩, ⟨(some 37), .arith .add .none (.tmp 36) (.lit (.int .i64 1)), none, []⟩, ⟨(some 5), .mv (.tmp 37), none, []⟩] (some [0, 1, 5, 6])))))))
def af36 : AFunc := ⟨39, 2, [.tmp 4],
  (.seq (.region [⟨(some 4), .mv (.lit (.int .i64 0)), none, []⟩] (some [0, 1]))
  (.seq (.region [⟨(some 5), .mv (.lit (.int .i64 0)), none, []⟩, ⟨(some 6), .mv (.lit (.bool false)), none, []⟩] (some [0, 1, 5, 6]))
  (.seq (.block 0 (.loop lp36_0))
  (.seq (.region [⟨(some 38), .mv (.tmp 5), none, []⟩, ⟨(some 4), .mv (.tmp 38), none, []⟩] (some [4]))
  .ret))))⟩
theorem cf36 : cFunc Tryd.prog (fun _ => false) (keepL keep36) Tryd.f36 = some af36 := by kernel_rfl
theorem good36 : Good Tryd.prog (36, af36) := ⟨_, _, _, Tryd.func36, cf36⟩
/-- (*reprise/lexer.division).tokens -/
def keep37 : List (Nat × List Nat) := [(0, [1]), (1, [2])]
def af37 : AFunc := ⟨4, 1, [.tmp 2],
  (.seq (.region [⟨(some 1), .box (.tmp 0), none, []⟩, ⟨(some 2), .mv (.lit .nilfunc), none, []⟩] (some [1]))
  (.seq (.region [⟨(some 3), .mkFunc 52 [] [(.tmp 1)], none, []⟩, ⟨(some 2), .mv (.tmp 3), none, []⟩] (some [2]))
  .ret))⟩
theorem cf37 : cFunc Tryd.prog (fun _ => false) (keepL keep37) Tryd.f37 = some af37 := by kernel_rfl
theorem good37 : Good Tryd.prog (37, af37) := ⟨_, _, _, Tryd.func37, cf37⟩
/-- reprise/repriseref01.begins -/
def keep38 : List (Nat × List Nat) := [(0, [0, 1]), (1, [0, 1, 5]), (2, [0, 1, 5, 12]), (3, [4]), (4, [0, 1, 6]), (5, [0, 1, 6, 7]), (6, [0, 1, 6, 7, 23]), (8, [0, 1, 6, 7, 52]), (9, [4]), (7, [0, 1, 6, 7]), (10, [4])]
def lp38_0 : ACode :=
  (.seq (.seq (.region [⟨(some 20), .mv (.tmp 7), none, []⟩, ⟨(some 21), .mv (.tmp 6), none, []⟩, ⟨(some 22), .len false (.tmp 21), none, []⟩, ⟨(some 23), .arith .lss .none (.tmp 20) (.tmp 22), none, []⟩] (some [0, 1, 6, 7, 23]))
  (.cond (.tmp 23) .skip
  (.exit 0)))
  (.seq (.block 1 (.seq (.drawn [⟨(some 26), .mv (.tmp 1), none, [1]⟩, ⟨(some 27), .mv (.tmp 6), none, [6]⟩, ⟨(some 28), .mv (.tmp 7), none, [7]⟩, ⟨(some 29), .indexAddrS 1 (.tmp 27) (.tmp 28), none, [27, 28]⟩, ⟨(some 30), .load false 1 (.tmp 29), none, [29]⟩, ⟨(some 31), .len true (.tmp 30), none, [30]⟩, ⟨(some 32), .arith .add .none (.tmp 26) (.tmp 31), none, [26, 31]⟩, ⟨(some 33), .mv (.tmp 0), none, [0]⟩, ⟨(some 34), .len true (.tmp 33), none, [33]⟩, ⟨(some 35), .arith .leq .none (.tmp 32) (.tmp 34), none, [32, 34]⟩, ⟨(some 36), .mv (.tmp 35), none, [35]⟩, ⟨(some 37), .mv (.tmp 0), (some (36, true)), [0, 36]⟩, ⟨(some 38), .mv (.tmp 1), (some (36, true)), [1, 36]⟩, ⟨(some 39), .mv (.tmp 1), (some (36, true)), [1, 36]⟩, ⟨(some 40), .mv (.tmp 6), (some (36, true)), [6, 36]⟩, ⟨(some 41), .mv (.tmp 7), (some (36, true)), [7, 36]⟩, ⟨(some 42), .indexAddrS 1 (.tmp 40) (.tmp 41), (some (36, true)), [40, 41, 36]⟩, ⟨(some 43), .load false 1 (.tmp 42), (some (36, true)), [42, 36]⟩, ⟨(some 44), .len true (.tmp 43), (some (36, true)), [43, 36]⟩, ⟨(some 45), .arith .add .none (.tmp 39) (.tmp 44), (some (36, true)), [39, 44, 36]⟩, ⟨(some 46), .sliceStr (.tmp 37) (some (.tmp 38)) (some (.tmp 45)), (some (36, true)), [37, 38, 45, 36]⟩, ⟨(some 47), .mv (.tmp 6), (some (36, true)), [6, 36]⟩, ⟨(some 48), .mv (.tmp 7), (some (36, true)), [7, 36]⟩, ⟨(some 49), .indexAddrS 1 (.tmp 47) (.tmp 48), (some (36, true)), [47, 48, 36]⟩, ⟨(some 50), .load false 1 (.tmp 49), (some (36, true)), [49, 36]⟩, ⟨(some 51), .arith .eql .none (.tmp 46) (.tmp 50), (some (36, true)), [46, 50, 36]⟩, ⟨(some 52), .pick (.tmp 36) (.tmp 51) (.lit (.bool false)), none, [36, 51]⟩] [0, 0, 0, 6, 14, 30, 63, 0, 128, 511, 1023, 2047, 2047, 2047, 2047, 2047, 51199, 116735, 247807, 518143, 1048575, 2047, 2047, 6293503, 14682111, 33554431, 67108863] (some [0, 1, 6, 7, 52]))
  (.cond (.tmp 52) (.seq (.region [⟨(some 53), .mv (.tmp 6), none, []⟩, ⟨(some 54), .mv (.tmp 7), none, []⟩, ⟨(some 55), .indexAddrS 1 (.tmp 53) (.tmp 54), none, []⟩, ⟨(some 56), .load false 1 (.tmp 55), none, []⟩, ⟨(some 4), .mv (.tmp 56), none, []⟩] (some [4]))
  .ret)
  .skip)))
  (.region [⟨(some 24), .mv (.tmp 7), none, []⟩, ⟨(some 25), .arith .add .none (.tmp 24) (.lit (.int .i64 1)), none, []⟩, ⟨(some 7), .mv (.tmp 25), none, []⟩] (some [0, 1, 6, 7]))))
def af38 : AFunc := ⟨57, 2, [.tmp 4],
  (.seq (.region [⟨(some 4), .mv (.lit (.str [])), none, []⟩] (some [0, 1]))
  (.seq (.seq (.region [⟨(some 8), .mv (.tmp 0), none, []⟩, ⟨(some 9), .mv (.tmp 1), none, []⟩, ⟨(some 10), .call (.fn 56) [(.tmp 8), (.tmp 9)], none, []⟩, ⟨(some 5), .mv (.tmp 10), none, []⟩] (some [0, 1, 5]))
  (.seq (.region [⟨(some 11), .mv (.tmp 5), none, []⟩, ⟨(some 12), .arith .gtr .none (.tmp 11) (.lit (.int .i64 0)), none, []⟩] (some [0, 1, 5, 12]))
  (.cond (.tmp 12) (.seq (.region [⟨(some 13), .mv (.tmp 0), none, []⟩, ⟨(some 14), .mv (.tmp 1), none, []⟩, ⟨(some 15), .mv (.tmp 1), none, []⟩, ⟨(some 16), .mv (.tmp 5), none, []⟩, ⟨(some 17), .arith .add .none (.tmp 15) (.tmp 16), none, []⟩, ⟨(some 18), .sliceStr (.tmp 13) (some (.tmp 14)) (some (.tmp 17)), none, []⟩, ⟨(some 4), .mv (.tmp 18), none, []⟩] (some [4]))
  .ret)
  .skip)))
  (.seq (.region [⟨(some 19), .call (.fn 57) [], none, []⟩, ⟨(some 6), .mv (.tmp 19), none, []⟩] (some [0, 1, 6]))
  (.seq (.seq (.region [⟨(some 7), .mv (.lit (.int .i64 0)), none, []⟩] (some [0, 1, 6, 7]))
  (.block 0 (.loop lp38_0)))
  (.seq (.region [⟨(some 4), .mv (.lit (.str [])), none, []⟩] (some [4]))
  .ret)))))⟩
theorem cf38 : cFunc Tryd.prog (fun _ => false) (keepL keep38) Tryd.f38 = some af38 := by kernel_rfl
theorem good38 : Good Tryd.prog (38, af38) := ⟨_, _, _, Tryd.func38, cf38⟩
/-- reprise/repriseref01.Token -/
def keep39 : List (Nat × List Nat) := [(0, [0, 2]), (1, [0, 2, 4]), (2, [2]), (3, [0, 2, 9]), (4, [2]), (5, [0, 2, 13]), (6, [2]), (7, [0, 2, 18]), (8, [2]), (9, [0, 2, 24]), (10, [2]), (11, [2])]
def af39 : AFunc := ⟨28, 1, [.cell 2 true 4],
  (.seq (.region [⟨(some 2), .alloc [(.int .i64 0), (.str []), (.int .i64 0), (.int .i64 0)], none, []⟩] (some [0, 2]))
  (.seq (.seq (.region [⟨(some 3), .mv (.tmp 0), none, []⟩, ⟨(some 4), .call (.fn 27) [(.tmp 3)], none, []⟩] (some [0, 2, 4]))
  (.cond (.tmp 4) (.seq (.region [⟨(some 5), .mv (.tmp 0), none, []⟩, ⟨(some 6), .build [(.int .i64 0), (.str []), (.int .i64 0), (.int .i64 0)] [(0, 1, (.lit (.int .i64 0))), (1, 1, (.tmp 5))], none, []⟩, ⟨none, .store 4 (.tmp 2) (.tmp 6), none, []⟩] (some [2]))
  .ret)
  .skip))
  (.seq (.seq (.region [⟨(some 7), .call (.fn 32) [], none, []⟩, ⟨(some 8), .mv (.tmp 0), none, []⟩, ⟨(some 9), .call (.fn 31) [(.tmp 7), (.tmp 8)], none, []⟩] (some [0, 2, 9]))
  (.cond (.tmp 9) (.seq (.region [⟨(some 10), .mv (.tmp 0), none, []⟩, ⟨(some 11), .build [(.int .i64 0), (.str []), (.int .i64 0), (.int .i64 0)] [(0, 1, (.lit (.int .i64 1))), (1, 1, (.tmp 10))], none, []⟩, ⟨none, .store 4 (.tmp 2) (.tmp 11), none, []⟩] (some [2]))
  .ret)
  .skip))
  (.seq (.seq (.region [⟨(some 12), .mv (.tmp 0), none, []⟩, ⟨(some 13), .call (.fn 29) [(.tmp 12)], none, []⟩] (some [0, 2, 13]))
  (.cond (.tmp 13) (.seq (.region [⟨(some 14), .mv (.tmp 0), none, []⟩, ⟨(some 15), .build [(.int .i64 0), (.str []), (.int .i64 0), (.int .i64 0)] [(0, 1, (.lit (.int .i64 2))), (1, 1, (.tmp 14))], none, []⟩, ⟨none, .store 4 (.tmp 2) (.tmp 15), none, []⟩] (some [2]))
  .ret)
  .skip))
  (.seq (.seq (.region [⟨(some 16), .mv (.tmp 0), none, []⟩, ⟨(some 17), .call (.fn 58) [(.tmp 16)], none, []⟩, ⟨(some 18), .arith .geq .none (.tmp 17) (.lit (.int .i64 0)), none, []⟩] (some [0, 2, 18]))
  (.cond (.tmp 18) (.seq (.region [⟨(some 19), .mv (.tmp 0), none, []⟩, ⟨(some 20), .call (.fn 58) [(.tmp 19)], none, []⟩, ⟨(some 21), .build [(.int .i64 0), (.str []), (.int .i64 0), (.int .i64 0)] [(0, 1, (.lit (.int .i64 3))), (2, 1, (.tmp 20))], none, []⟩, ⟨none, .store 4 (.tmp 2) (.tmp 21), none, []⟩] (some [2]))
  .ret)
  .skip))
  (.seq (.seq (.region [⟨(some 22), .call (.fn 57) [], none, []⟩, ⟨(some 23), .mv (.tmp 0), none, []⟩, ⟨(some 24), .call (.fn 31) [(.tmp 22), (.tmp 23)], none, []⟩] (some [0, 2, 24]))
  (.cond (.tmp 24) (.seq (.region [⟨(some 25), .mv (.tmp 0), none, []⟩, ⟨(some 26), .build [(.int .i64 0), (.str []), (.int .i64 0), (.int .i64 0)] [(0, 1, (.lit (.int .i64 4))), (1, 1, (.tmp 25))], none, []⟩, ⟨none, .store 4 (.tmp 2) (.tmp 26), none, []⟩] (some [2]))
  .ret)
  .skip))
  (.seq (.region [⟨(some 27), .build [(.int .i64 0), (.str []), (.int .i64 0), (.int .i64 0)] [(0, 1, (.lit (.int .i64 (-1))))], none, []⟩, ⟨none, .store 4 (.tmp 2) (.tmp 27), none, []⟩] (some [2]))
  .ret)))))))⟩
theorem cf39 : cFunc Tryd.prog (fun _ => false) (keepL keep39) Tryd.f39 = some af39 := by kernel_rfl
theorem good39 : Good Tryd.prog (39, af39) := ⟨_, _, _, Tryd.func39, cf39⟩
/-- reprise/repriselaw01.Tokens -/
def keep40 : List (Nat × List Nat) := [(0, []), (1, [0])]
def af40 : AFunc := ⟨8, 0, [.tmp 0],
  (.seq (.region [⟨(some 0), .mv (.lit .empty), none, []⟩] (some []))
  (.seq (.region [⟨(some 1), .build [(.int .i64 0), (.str []), (.int .i64 0), (.int .i64 0)] [(0, 1, (.lit (.int .i64 1))), (1, 1, (.lit (.str [102, 117, 110])))], none, []⟩, ⟨(some 2), .build [(.int .i64 0), (.str []), (.int .i64 0), (.int .i64 0)] [(0, 1, (.lit (.int .i64 0))), (1, 1, (.lit (.str [120, 95, 49]))), (3, 1, (.lit (.int .i64 4)))], none, []⟩, ⟨(some 3), .build [(.int .i64 0), (.str []), (.int .i64 0), (.int .i64 0)] [(0, 1, (.lit (.int .i64 4))), (1, 1, (.lit (.str [45, 62]))), (3, 1, (.lit (.int .i64 8)))], none, []⟩, ⟨(some 4), .build [(.int .i64 0), (.str []), (.int .i64 0), (.int .i64 0)] [(0, 1, (.lit (.int .i64 0))), (1, 1, (.lit (.str [120, 95, 49]))), (3, 1, (.lit (.int .i64 11)))], none, []⟩, ⟨(some 5), .build [(.int .i64 0), (.str []), (.int .i64 0), (.int .i64 0)] [(0, 1, (.lit (.int .i64 4))), (1, 1, (.lit (.str [61, 61]))), (3, 1, (.lit (.int .i64 15)))], none, []⟩, ⟨(some 6), .build [(.int .i64 0), (.str []), (.int .i64 0), (.int .i64 0)] [(0, 1, (.lit (.int .i64 3))), (2, 1, (.lit (.int .i64 10))), (3, 1, (.lit (.int .i64 18)))], none, []⟩, ⟨(some 7), .buildSlice 4 6 [(.int .i64 0), (.str []), (.int .i64 0), (.int .i64 0)] [(0, (.tmp 1)), (1, (.tmp 2)), (2, (.tmp 3)), (3, (.tmp 4)), (4, (.tmp 5)), (5, (.tmp 6))], none, []⟩, ⟨(some 0), .mv (.tmp 7), none, []⟩] (some [0]))
  .ret))⟩
theorem cf40 : cFunc Tryd.prog (fun _ => false) (keepL keep40) Tryd.f40 = some af40 := by kernel_rfl
theorem good40 : Good Tryd.prog (40, af40) := ⟨_, _, _, Tryd.func40, cf40⟩
end Go.AI

namespace Go.AI
open Go Go.Proofs
set_option maxRecDepth 100000
/-- reprise/lexer.token -/
def keep41 : List (Nat × List Nat) := [(0, [0, 2]), (1, [0, 2, 4, 5]), (2, [0, 2, 4, 11]), (4, [0, 2, 15]), (6, [0, 2, 20]), (8, [0, 2, 25]), (10, [0, 2, 30]), (11, [2, 3]), (9, [2, 3]), (7, [2, 3]), (5, [2, 3]), (3, [2, 3]), (12, [2, 3])]
def af41 : AFunc := ⟨42, 1, [.cell 2 true 4, .tmp 3],
  (.seq (.region [⟨(some 2), .alloc [(.int .i64 0), (.str []), (.int .i64 0), (.int .i64 0)], none, []⟩, ⟨(some 3), .mv (.lit (.bool false)), none, []⟩] (some [0, 2]))
  (.seq (.region [⟨(some 7), .mv (.tmp 0), none, []⟩, ⟨(some 8), .call (.fn 59) [(.tmp 7)], none, []⟩, ⟨(some 6), .mv (.tmp 8), none, []⟩, ⟨(some 9), .extract (.tmp 6) 0, none, []⟩, ⟨(some 10), .extract (.tmp 6) 1, none, []⟩, ⟨(some 4), .mv (.tmp 9), none, []⟩, ⟨(some 5), .mv (.tmp 10), none, []⟩] (some [0, 2, 4, 5]))
  (.seq (.block 0 (.seq (.region [⟨(some 12), .mv (.tmp 5), none, []⟩, ⟨(some 11), .mv (.tmp 12), none, []⟩] (some [0, 2, 4, 11]))
  (.cond (.tmp 11) (.seq (.region [⟨(some 13), .mv (.tmp 4), none, []⟩, ⟨(some 14), .build [(.int .i64 0), (.str []), (.int .i64 0), (.int .i64 0)] [(0, 1, (.lit (.int .i64 3))), (2, 1, (.tmp 13))], none, []⟩, ⟨none, .store 4 (.tmp 2) (.tmp 14), none, []⟩, ⟨(some 3), .mv (.lit (.bool true)), none, []⟩] (some [2, 3]))
  .ret)
  (.seq (.region [⟨(some 16), .mv (.tmp 0), none, []⟩, ⟨(some 17), .call (.fn 30) [(.tmp 16)], none, []⟩, ⟨(some 15), .mv (.tmp 17), none, []⟩] (some [0, 2, 15]))
  (.cond (.tmp 15) (.seq (.region [⟨(some 18), .mv (.tmp 0), none, []⟩, ⟨(some 19), .build [(.int .i64 0), (.str []), (.int .i64 0), (.int .i64 0)] [(0, 1, (.lit (.int .i64 1))), (1, 1, (.tmp 18))], none, []⟩, ⟨none, .store 4 (.tmp 2) (.tmp 19), none, []⟩, ⟨(some 3), .mv (.lit (.bool true)), none, []⟩] (some [2, 3]))
  .ret)
  (.seq (.region [⟨(some 21), .mv (.tmp 0), none, []⟩, ⟨(some 22), .call (.fn 26) [(.tmp 21)], none, []⟩, ⟨(some 20), .mv (.tmp 22), none, []⟩] (some [0, 2, 20]))
  (.cond (.tmp 20) (.seq (.region [⟨(some 23), .mv (.tmp 0), none, []⟩, ⟨(some 24), .build [(.int .i64 0), (.str []), (.int .i64 0), (.int .i64 0)] [(0, 1, (.lit (.int .i64 0))), (1, 1, (.tmp 23))], none, []⟩, ⟨none, .store 4 (.tmp 2) (.tmp 24), none, []⟩, ⟨(some 3), .mv (.lit (.bool true)), none, []⟩] (some [2, 3]))
  .ret)
  (.seq (.region [⟨(some 26), .mv (.tmp 0), none, []⟩, ⟨(some 27), .call (.fn 28) [(.tmp 26)], none, []⟩, ⟨(some 25), .mv (.tmp 27), none, []⟩] (some [0, 2, 25]))
  (.cond (.tmp 25) (.seq (.region [⟨(some 28), .mv (.tmp 0), none, []⟩, ⟨(some 29), .build [(.int .i64 0), (.str []), (.int .i64 0), (.int .i64 0)] [(0, 1, (.lit (.int .i64 2))), (1, 1, (.tmp 28))], none, []⟩, ⟨none, .store 4 (.tmp 2) (.tmp 29), none, []⟩, ⟨(some 3), .mv (.lit (.bool true)), none, []⟩] (some [2, 3]))
  .ret)
  (.seq (.region [⟨(some 31), .mv (.tmp 0), none, []⟩, ⟨(some 32), .arith .neq .none (.tmp 31) (.lit (.str [])), none, []⟩, ⟨(some 33), .mv (.tmp 32), none, []⟩, ⟨(some 34), .mv (.tmp 0), (some (33, true)), []⟩, ⟨(some 35), .call (.fn 60) [(.tmp 34)], (some (33, true)), []⟩, ⟨(some 36), .mv (.tmp 0), (some (33, true)), []⟩, ⟨(some 37), .arith .eql .none (.tmp 35) (.tmp 36), (some (33, true)), []⟩, ⟨(some 38), .pick (.tmp 33) (.tmp 37) (.lit (.bool false)), none, []⟩, ⟨(some 30), .mv (.tmp 38), none, []⟩] (some [0, 2, 30]))
  (.cond (.tmp 30) (.seq (.region [⟨(some 39), .mv (.tmp 0), none, []⟩, ⟨(some 40), .build [(.int .i64 0), (.str []), (.int .i64 0), (.int .i64 0)] [(0, 1, (.lit (.int .i64 4))), (1, 1, (.tmp 39))], none, []⟩, ⟨none, .store 4 (.tmp 2) (.tmp 40), none, []⟩, ⟨(some 3), .mv (.lit (.bool true)), none, []⟩] (some [2, 3]))
  .ret)
  .skip)))))))))))
  (.seq (.region [⟨(some 41), .build [(.int .i64 0), (.str []), (.int .i64 0), (.int .i64 0)] [], none, []⟩, ⟨none, .store 4 (.tmp 2) (.tmp 41), none, []⟩, ⟨(some 3), .mv (.lit (.bool false)), none, []⟩] (some [2, 3]))
  .ret))))⟩
theorem cf41 : cFunc Tryd.prog (fun _ => false) (keepL keep41) Tryd.f41 = some af41 := by kernel_rfl
theorem good41 : Good Tryd.prog (41, af41) := ⟨_, _, _, Tryd.func41, cf41⟩
/-- reprise/lexer.joined -/
def keep42 : List (Nat × List Nat) := [(0, [0]), (1, [2])]
def af42 : AFunc := ⟨5, 1, [.tmp 2],
  (.seq (.region [⟨(some 2), .mv (.lit (.str [])), none, []⟩] (some [0]))
  (.seq (.region [⟨(some 3), .mv (.tmp 0), none, []⟩, ⟨(some 4), .call (.fn 61) [(.tmp 3), (.lit (.str [32]))], none, []⟩, ⟨(some 2), .mv (.tmp 4), none, []⟩] (some [2]))
  .ret))⟩
theorem cf42 : cFunc Tryd.prog (fun _ => false) (keepL keep42) Tryd.f42 = some af42 := by kernel_rfl
theorem good42 : Good Tryd.prog (42, af42) := ⟨_, _, _, Tryd.func42, cf42⟩
/-- reprise/repriseref01.valid -/
def keep43 : List (Nat × List Nat) := [(0, [1]), (1, [1, 3]), (2, [2])]
def af43 : AFunc := ⟨31, 1, [.tmp 2],
  (.seq (.region [⟨(some 1), .box (.tmp 0), none, []⟩, ⟨(some 2), .mv (.lit (.bool false)), none, []⟩] (some [1]))
  (.seq (.region [⟨(some 4), .load true 4 (.tmp 1), none, []⟩, ⟨(some 5), .call (.fn 35) [(.tmp 4)], none, []⟩, ⟨(some 6), .call (.fn 39) [(.tmp 5)], none, []⟩, ⟨(some 3), .alloc [(.int .i64 0), (.str []), (.int .i64 0), (.int .i64 0)], none, []⟩, ⟨none, .store 4 (.tmp 3) (.tmp 6), none, []⟩] (some [1, 3]))
  (.seq (.region [⟨(some 7), .addOff 0 (.tmp 1), none, []⟩, ⟨(some 8), .load false 1 (.tmp 7), none, []⟩, ⟨(some 9), .arith .geq .none (.tmp 8) (.lit (.int .i64 0)), none, []⟩, ⟨(some 10), .mv (.tmp 9), none, []⟩, ⟨(some 11), .addOff 0 (.tmp 3), (some (10, true)), []⟩, ⟨(some 12), .load false 1 (.tmp 11), (some (10, true)), []⟩, ⟨(some 13), .addOff 0 (.tmp 1), (some (10, true)), []⟩, ⟨(some 14), .load false 1 (.tmp 13), (some (10, true)), []⟩, ⟨(some 15), .arith .eql .none (.tmp 12) (.tmp 14), (some (10, true)), []⟩, ⟨(some 16), .pick (.tmp 10) (.tmp 15) (.lit (.bool false)), none, []⟩, ⟨(some 17), .mv (.tmp 16), none, []⟩, ⟨(some 18), .addOff 1 (.tmp 3), (some (17, true)), []⟩, ⟨(some 19), .load false 1 (.tmp 18), (some (17, true)), []⟩, ⟨(some 20), .addOff 1 (.tmp 1), (some (17, true)), []⟩, ⟨(some 21), .load false 1 (.tmp 20), (some (17, true)), []⟩, ⟨(some 22), .arith .eql .none (.tmp 19) (.tmp 21), (some (17, true)), []⟩, ⟨(some 23), .pick (.tmp 17) (.tmp 22) (.lit (.bool false)), none, []⟩, ⟨(some 24), .mv (.tmp 23), none, []⟩, ⟨(some 25), .addOff 2 (.tmp 3), (some (24, true)), []⟩, ⟨(some 26), .load false 1 (.tmp 25), (some (24, true)), []⟩, ⟨(some 27), .addOff 2 (.tmp 1), (some (24, true)), []⟩, ⟨(some 28), .load false 1 (.tmp 27), (some (24, true)), []⟩, ⟨(some 29), .arith .eql .none (.tmp 26) (.tmp 28), (some (24, true)), []⟩, ⟨(some 30), .pick (.tmp 24) (.tmp 29) (.lit (.bool false)), none, []⟩, ⟨(some 2), .mv (.tmp 30), none, []⟩] (some [2]))
  .ret)))⟩
theorem cf43 : cFunc Tryd.prog (fun _ => false) (keepL keep43) Tryd.f43 = some af43 := by kernel_rfl
theorem good43 : Good Tryd.prog (43, af43) := ⟨_, _, _, Tryd.func43, cf43⟩
/-- strings.Count -/
def keep44 : List (Nat × List Nat) := [(0, [0, 1]), (1, [0, 1, 9]), (2, [4]), (3, [0, 1, 15]), (4, [4]), (5, [0, 1, 5]), (6, [0, 1, 5, 6]), (7, [0, 1, 5, 6, 24]), (8, [4]), (9, [0, 1, 5, 6]), (10, [0, 1, 5])]
def lp44_0 : ACode :=
  (.block 1 (.seq (.region [⟨(some 20), .mv (.tmp 0), none, []⟩, ⟨(some 21), .mv (.tmp 1), none, []⟩, ⟨(some 22), .call (.fn 64) [(.tmp 20), (.tmp 21)], none, []⟩, ⟨(some 6), .mv (.tmp 22), none, []⟩] (some [0, 1, 5, 6]))
  (.seq (.seq (.region [⟨(some 23), .mv (.tmp 6), none, []⟩, ⟨(some 24), .arith .eql .none (.tmp 23) (.lit (.int .i64 (-1))), none, []⟩] (some [0, 1, 5, 6, 24]))
  (.cond (.tmp 24) (.seq (.region [⟨(some 25), .mv (.tmp 5), none, []⟩, ⟨(some 4), .mv (.tmp 25), none, []⟩] (some [4]))
  .ret)
  .skip))
  (.seq (.region [⟨(some 26), .mv (.tmp 5), none, []⟩, ⟨(some 27), .arith .add .none (.tmp 26) (.lit (.int .i64 1)), none, []⟩, ⟨(some 5), .mv (.tmp 27), none, []⟩] (some [0, 1, 5, 6]))
  (.region [⟨(some 28), .mv (.tmp 0), none, []⟩, ⟨(some 29), .mv (.tmp 6), none, []⟩, ⟨(some 30), .mv (.tmp 1), none, []⟩, ⟨(some 31), .len true (.tmp 30), none, []⟩, ⟨(some 32), .arith .add .none (.tmp 29) (.tmp 31), none, []⟩, ⟨(some 33), .sliceStr (.tmp 28) (some (.tmp 32)) none, none, []⟩, ⟨(some 0), .mv (.tmp 33), none, []⟩] (some [0, 1, 5]))))))
def af44 : AFunc := ⟨34, 2, [.tmp 4],
  (.seq (.region [⟨(some 4), .mv (.lit (.int .i64 0)), none, []⟩] (some [0, 1]))
  (.seq (.seq (.region [⟨(some 7), .mv (.tmp 1), none, []⟩, ⟨(some 8), .len true (.tmp 7), none, []⟩, ⟨(some 9), .arith .eql .none (.tmp 8) (.lit (.int .i64 0)), none, []⟩] (some [0, 1, 9]))
  (.cond (.tmp 9) (.seq (.region [⟨(some 10), .mv (.tmp 0), none, []⟩, ⟨(some 11), .call (.fn 62) [(.tmp 10)], none, []⟩, ⟨(some 12), .arith .add .none (.tmp 11) (.lit (.int .i64 1)), none, []⟩, ⟨(some 4), .mv (.tmp 12), none, []⟩] (some [4]))
  .ret)
  .skip))
  (.seq (.seq (.region [⟨(some 13), .mv (.tmp 1), none, []⟩, ⟨(some 14), .len true (.tmp 13), none, []⟩, ⟨(some 15), .arith .eql .none (.tmp 14) (.lit (.int .i64 1)), none, []⟩] (some [0, 1, 15]))
  (.cond (.tmp 15) (.seq (.region [⟨(some 16), .mv (.tmp 0), none, []⟩, ⟨(some 17), .mv (.tmp 1), none, []⟩, ⟨(some 18), .indexStr (.tmp 17) (.lit (.int .i64 0)), none, []⟩, ⟨(some 19), .call (.fn 63) [(.tmp 16), (.tmp 18)], none, []⟩, ⟨(some 4), .mv (.tmp 19), none, []⟩] (some [4]))
  .ret)
  .skip))
  (.seq (.region [⟨(some 5), .mv (.lit (.int .i64 0)), none, []⟩] (some [0, 1, 5]))
  (.block 0 (.loop lp44_0))))))⟩
theorem cf44 : cFunc Tryd.prog (fun _ => false) (keepL keep44) Tryd.f44 = some af44 := by kernel_rfl
theorem good44 : Good Tryd.prog (44, af44) := ⟨_, _, _, Tryd.func44, cf44⟩
/-- strings.LastIndexByte -/
def keep45 : List (Nat × List Nat) := [(0, [0, 1]), (1, [4])]
def af45 : AFunc := ⟨8, 2, [.tmp 4],
  (.seq (.region [⟨(some 4), .mv (.lit (.int .i64 0)), none, []⟩] (some [0, 1]))
  (.seq (.region [⟨(some 5), .mv (.tmp 0), none, []⟩, ⟨(some 6), .mv (.tmp 1), none, []⟩, ⟨(some 7), .call (.fn 65) [(.tmp 5), (.tmp 6)], none, []⟩, ⟨(some 4), .mv (.tmp 7), none, []⟩] (some [4]))
  .ret))⟩
theorem cf45 : cFunc Tryd.prog (fun _ => false) (keepL keep45) Tryd.f45 = some af45 := by kernel_rfl
theorem good45 : Good Tryd.prog (45, af45) := ⟨_, _, _, Tryd.func45, cf45⟩
/-- reprise/lexer.word -/
def keep47 : List (Nat × List Nat) := [(0, [0, 1]), (1, [0, 20]), (2, [4]), (3, [22]), (4, [22, 23, 24]), (5, [6, 22]), (6, [22, 33]), (7, [4]), (8, [4])]
def lp47_0 : ACode :=
  (.seq (.region [⟨(some 23), .nextStr (.tmp 22), none, []⟩, ⟨(some 24), .extract (.tmp 23) 0, none, []⟩] (some [22, 23, 24]))
  (.seq (.cond (.tmp 24) .skip
  (.exit 0))
  (.block 1 (.seq (.region [⟨(some 25), .extract (.tmp 23) 2, none, []⟩, ⟨(some 6), .mv (.tmp 25), none, []⟩] (some [6, 22]))
  (.seq (.region [⟨(some 26), .mv (.tmp 6), none, []⟩, ⟨(some 27), .arith .gtr .none (.tmp 26) (.lit (.int .i32 127)), none, []⟩, ⟨(some 28), .mv (.tmp 27), none, []⟩, ⟨(some 29), .mv (.tmp 6), (some (28, false)), []⟩, ⟨(some 30), .toInt .u8 (.tmp 29), (some (28, false)), []⟩, ⟨(some 31), .call (.fn 67) [(.tmp 30)], (some (28, false)), []⟩, ⟨(some 32), .arith .lss .none (.tmp 31) (.lit (.int .i64 2)), (some (28, false)), []⟩, ⟨(some 33), .pick (.tmp 28) (.lit (.bool true)) (.tmp 32), none, []⟩] (some [22, 33]))
  (.cond (.tmp 33) (.seq (.region [⟨(some 4), .mv (.lit (.bool false)), none, []⟩] (some [4]))
  .ret)
  .skip))))))
def af47 : AFunc := ⟨34, 2, [.tmp 4],
  (.seq (.region [⟨(some 4), .mv (.lit (.bool false)), none, []⟩] (some [0, 1]))
  (.seq (.seq (.region [⟨(some 7), .mv (.tmp 0), none, []⟩, ⟨(some 8), .arith .eql .none (.tmp 7) (.lit (.str [])), none, []⟩, ⟨(some 9), .mv (.tmp 8), none, []⟩, ⟨(some 10), .mv (.tmp 0), (some (9, false)), []⟩, ⟨(some 11), .len true (.tmp 10), (some (9, false)), []⟩, ⟨(some 12), .arith .gtr .none (.tmp 11) (.lit (.int .i64 12)), (some (9, false)), []⟩, ⟨(some 13), .pick (.tmp 9) (.lit (.bool true)) (.tmp 12), none, []⟩, ⟨(some 14), .mv (.tmp 13), none, []⟩, ⟨(some 15), .mv (.tmp 0), (some (14, false)), []⟩, ⟨(some 16), .indexStr (.tmp 15) (.lit (.int .i64 0)), (some (14, false)), []⟩, ⟨(some 17), .call (.fn 67) [(.tmp 16)], (some (14, false)), []⟩, ⟨(some 18), .mv (.tmp 1), (some (14, false)), []⟩, ⟨(some 19), .arith .neq .none (.tmp 17) (.tmp 18), (some (14, false)), []⟩, ⟨(some 20), .pick (.tmp 14) (.lit (.bool true)) (.tmp 19), none, []⟩] (some [0, 20]))
  (.cond (.tmp 20) (.seq (.region [⟨(some 4), .mv (.lit (.bool false)), none, []⟩] (some [4]))
  .ret)
  .skip))
  (.seq (.seq (.region [⟨(some 21), .mv (.tmp 0), none, []⟩, ⟨(some 22), .rangeStr (.tmp 21), none, []⟩] (some [22]))
  (.block 0 (.loop lp47_0)))
  (.seq (.region [⟨(some 4), .mv (.lit (.bool true)), none, []⟩] (some [4]))
  .ret))))⟩
theorem cf47 : cFunc Tryd.prog (fun _ => false) (keepL keep47) Tryd.f47 = some af47 := by kernel_rfl
theorem good47 : Good Tryd.prog (47, af47) := ⟨_, _, _, Tryd.func47, cf47⟩
/-- reprise/repriseref01.word -/
def keep48 : List (Nat × List Nat) := [(0, [0, 1, 2, 3]), (1, [0, 35]), (2, [8]), (3, [0, 9]), (4, [0, 9, 39]), (6, [0, 9, 10]), (7, [0, 9, 71]), (8, [8]), (5, [0, 9]), (9, [8])]
def lp48_0 : ACode :=
  (.seq (.seq (.region [⟨(some 36), .mv (.tmp 9), none, []⟩, ⟨(some 37), .mv (.tmp 0), none, []⟩, ⟨(some 38), .len true (.tmp 37), none, []⟩, ⟨(some 39), .arith .lss .none (.tmp 36) (.tmp 38), none, []⟩] (some [0, 9, 39]))
  (.cond (.tmp 39) .skip
  (.exit 0)))
  (.seq (.block 1 (.seq (.region [⟨(some 42), .mv (.tmp 0), none, []⟩, ⟨(some 43), .mv (.tmp 9), none, []⟩, ⟨(some 44), .indexStr (.tmp 42) (.tmp 43), none, []⟩, ⟨(some 10), .mv (.tmp 44), none, []⟩] (some [0, 9, 10]))
  (.seq (.region [⟨(some 45), .mv (.tmp 10), none, []⟩, ⟨(some 46), .arith .geq .none (.tmp 45) (.lit (.int .u8 97)), none, []⟩, ⟨(some 47), .mv (.tmp 46), none, []⟩, ⟨(some 48), .mv (.tmp 10), (some (47, true)), []⟩, ⟨(some 49), .arith .leq .none (.tmp 48) (.lit (.int .u8 122)), (some (47, true)), []⟩, ⟨(some 50), .pick (.tmp 47) (.tmp 49) (.lit (.bool false)), none, []⟩, ⟨(some 51), .mv (.tmp 50), none, []⟩, ⟨(some 52), .mv (.tmp 10), (some (51, false)), []⟩, ⟨(some 53), .arith .geq .none (.tmp 52) (.lit (.int .u8 65)), (some (51, false)), []⟩, ⟨(some 54), .mv (.tmp 53), (some (51, false)), []⟩, ⟨(some 55), .mv (.tmp 10), (some (54, true)), []⟩, ⟨(some 56), .arith .leq .none (.tmp 55) (.lit (.int .u8 90)), (some (54, true)), []⟩, ⟨(some 57), .pick (.tmp 54) (.tmp 56) (.lit (.bool false)), (some (51, false)), []⟩, ⟨(some 58), .pick (.tmp 51) (.lit (.bool true)) (.tmp 57), none, []⟩, ⟨(some 59), .mv (.tmp 58), none, []⟩, ⟨(some 60), .mv (.tmp 10), (some (59, false)), []⟩, ⟨(some 61), .arith .geq .none (.tmp 60) (.lit (.int .u8 48)), (some (59, false)), []⟩, ⟨(some 62), .mv (.tmp 61), (some (59, false)), []⟩, ⟨(some 63), .mv (.tmp 10), (some (62, true)), []⟩, ⟨(some 64), .arith .leq .none (.tmp 63) (.lit (.int .u8 57)), (some (62, true)), []⟩, ⟨(some 65), .pick (.tmp 62) (.tmp 64) (.lit (.bool false)), (some (59, false)), []⟩, ⟨(some 66), .pick (.tmp 59) (.lit (.bool true)) (.tmp 65), none, []⟩, ⟨(some 67), .mv (.tmp 66), none, []⟩, ⟨(some 68), .mv (.tmp 10), (some (67, false)), []⟩, ⟨(some 69), .arith .eql .none (.tmp 68) (.lit (.int .u8 95)), (some (67, false)), []⟩, ⟨(some 70), .pick (.tmp 67) (.lit (.bool true)) (.tmp 69), none, []⟩, ⟨(some 71), .not (.tmp 70), none, []⟩] (some [0, 9, 71]))
  (.cond (.tmp 71) (.seq (.region [⟨(some 8), .mv (.lit (.bool false)), none, []⟩] (some [8]))
  .ret)
  .skip))))
  (.region [⟨(some 40), .mv (.tmp 9), none, []⟩, ⟨(some 41), .arith .add .none (.tmp 40) (.lit (.int .i64 1)), none, []⟩, ⟨(some 9), .mv (.tmp 41), none, []⟩] (some [0, 9]))))
def af48 : AFunc := ⟨72, 4, [.tmp 8],
  (.seq (.region [⟨(some 8), .mv (.lit (.bool false)), none, []⟩] (some [0, 1, 2, 3]))
  (.seq (.seq (.region [⟨(some 11), .mv (.tmp 0), none, []⟩, ⟨(some 12), .len true (.tmp 11), none, []⟩, ⟨(some 13), .call (.fn 34) [(.tmp 12), (.lit (.int .i64 1)), (.lit (.int .i64 12))], none, []⟩, ⟨(some 14), .not (.tmp 13), none, []⟩, ⟨(some 15), .mv (.tmp 14), none, []⟩, ⟨(some 16), .mv (.tmp 0), (some (15, false)), []⟩, ⟨(some 17), .indexStr (.tmp 16) (.lit (.int .i64 0)), (some (15, false)), []⟩, ⟨(some 18), .mv (.tmp 1), (some (15, false)), []⟩, ⟨(some 19), .arith .geq .none (.tmp 17) (.tmp 18), (some (15, false)), []⟩, ⟨(some 20), .mv (.tmp 19), (some (15, false)), []⟩, ⟨(some 21), .mv (.tmp 0), (some (20, true)), []⟩, ⟨(some 22), .indexStr (.tmp 21) (.lit (.int .i64 0)), (some (20, true)), []⟩, ⟨(some 23), .mv (.tmp 2), (some (20, true)), []⟩, ⟨(some 24), .arith .leq .none (.tmp 22) (.tmp 23), (some (20, true)), []⟩, ⟨(some 25), .pick (.tmp 20) (.tmp 24) (.lit (.bool false)), (some (15, false)), []⟩, ⟨(some 26), .mv (.tmp 25), (some (15, false)), []⟩, ⟨(some 27), .mv (.tmp 3), (some (26, false)), []⟩, ⟨(some 28), .mv (.tmp 27), (some (26, false)), []⟩, ⟨(some 29), .mv (.tmp 0), (some (28, true)), []⟩, ⟨(some 30), .indexStr (.tmp 29) (.lit (.int .i64 0)), (some (28, true)), []⟩, ⟨(some 31), .arith .eql .none (.tmp 30) (.lit (.int .u8 95)), (some (28, true)), []⟩, ⟨(some 32), .pick (.tmp 28) (.tmp 31) (.lit (.bool false)), (some (26, false)), []⟩, ⟨(some 33), .pick (.tmp 26) (.lit (.bool true)) (.tmp 32), (some (15, false)), []⟩, ⟨(some 34), .not (.tmp 33), (some (15, false)), []⟩, ⟨(some 35), .pick (.tmp 15) (.lit (.bool true)) (.tmp 34), none, []⟩] (some [0, 35]))
  (.cond (.tmp 35) (.seq (.region [⟨(some 8), .mv (.lit (.bool false)), none, []⟩] (some [8]))
  .ret)
  .skip))
  (.seq (.seq (.region [⟨(some 9), .mv (.lit (.int .i64 0)), none, []⟩] (some [0, 9]))
  (.block 0 (.loop lp48_0)))
  (.seq (.region [⟨(some 8), .mv (.lit (.bool true)), none, []⟩] (some [8]))
  .ret))))⟩
theorem cf48 : cFunc Tryd.prog (fun _ => false) (keepL keep48) Tryd.f48 = some af48 := by kernel_rfl
theorem good48 : Good Tryd.prog (48, af48) := ⟨_, _, _, Tryd.func48, cf48⟩
/-- reprise/lexer.keywords -/
def keep49 : List (Nat × List Nat) := [(0, []), (1, [1]), (2, [1, 5, 6, 7]), (3, [1, 5, 6, 7, 8]), (4, [1, 3, 5, 6, 7]), (5, [1, 5, 6, 7]), (6, [1, 5, 6, 7]), (7, [0])]
def lp49_0 : ACode :=
  (.seq (.region [⟨(some 8), .arith .lss .none (.tmp 7) (.tmp 6), none, []⟩] (some [1, 5, 6, 7, 8]))
  (.seq (.cond (.tmp 8) .skip
  (.exit 0))
  (.seq (.block 1 (.seq (.region [⟨(some 9), .indexAddrS 1 (.tmp 5) (.tmp 7), none, []⟩, ⟨(some 10), .load false 1 (.tmp 9), none, []⟩, ⟨(some 3), .mv (.tmp 10), none, []⟩] (some [1, 3, 5, 6, 7]))
  (.region [⟨(some 11), .mv (.tmp 1), none, []⟩, ⟨(some 12), .mv (.tmp 3), none, []⟩, ⟨none, .mapUpdate 2 (.tmp 11) (.tmp 12) (.lit (.int .i64 1)), none, []⟩] (some [1, 5, 6, 7]))))
  (.region [⟨(some 13), .arith .add .none (.tmp 7) (.lit (.int .i64 1)), none, []⟩, ⟨(some 7), .mv (.tmp 13), none, []⟩] (some [1, 5, 6, 7])))))
def af49 : AFunc := ⟨15, 0, [.tmp 0],
  (.seq (.region [⟨(some 0), .mv (.lit .nilmap), none, []⟩] (some []))
  (.seq (.region [⟨(some 4), .mkMap, none, []⟩, ⟨(some 1), .mv (.tmp 4), none, []⟩] (some [1]))
  (.seq (.seq (.region [⟨(some 5), .call (.fn 68) [(.lit (.str [102, 117, 110, 32, 108, 101, 116, 32, 114, 101, 99, 32, 105, 110, 32, 105, 102, 32, 116, 104, 101, 110, 32, 101, 108, 115, 101, 32, 109, 97, 116, 99, 104, 32, 100, 111, 32, 104, 97, 110, 100, 108, 101, 32, 115, 104, 97, 108, 108, 111, 119, 32, 110, 97, 109, 101, 100, 32, 109, 97, 115, 107, 32, 117, 115, 105, 110, 103, 32, 99, 108, 111, 115, 101, 32, 114, 101, 115, 117, 109, 101, 32, 100, 114, 111, 112, 32, 114, 101, 116, 117, 114, 110, 32, 116, 114, 117, 101, 32, 102, 97, 108, 115, 101, 32, 100, 97, 116, 97, 32, 101, 102, 102, 101, 99, 116, 32, 111, 110, 99, 101, 32, 100, 101, 102, 32, 109, 97, 105, 110]))], none, []⟩, ⟨(some 6), .len false (.tmp 5), none, []⟩, ⟨(some 7), .mv (.lit (.int .i64 0)), none, []⟩] (some [1, 5, 6, 7]))
  (.block 0 (.loop lp49_0)))
  (.seq (.region [⟨(some 14), .mv (.tmp 1), none, []⟩, ⟨(some 0), .mv (.tmp 14), none, []⟩] (some [0]))
  .ret))))⟩
theorem cf49 : cFunc Tryd.prog (fun _ => false) (keepL keep49) Tryd.f49 = some af49 := by kernel_rfl
theorem good49 : Good Tryd.prog (49, af49) := ⟨_, _, _, Tryd.func49, cf49⟩
/-- reprise/repriseref01.Index -/
def keep50 : List (Nat × List Nat) := [(0, [0, 1]), (1, [0, 1, 5]), (2, [0, 1, 5, 9]), (4, [0, 1, 5, 17]), (5, [4]), (3, [0, 1, 5]), (6, [4])]
def lp50_0 : ACode :=
  (.seq (.seq (.region [⟨(some 6), .mv (.tmp 5), none, []⟩, ⟨(some 7), .mv (.tmp 0), none, []⟩, ⟨(some 8), .len false (.tmp 7), none, []⟩, ⟨(some 9), .arith .lss .none (.tmp 6) (.tmp 8), none, []⟩] (some [0, 1, 5, 9]))
  (.cond (.tmp 9) .skip
  (.exit 0)))
  (.seq (.block 1 (.seq (.region [⟨(some 12), .mv (.tmp 0), none, []⟩, ⟨(some 13), .mv (.tmp 5), none, []⟩, ⟨(some 14), .indexAddrS 1 (.tmp 12) (.tmp 13), none, []⟩, ⟨(some 15), .load false 1 (.tmp 14), none, []⟩, ⟨(some 16), .mv (.tmp 1), none, []⟩, ⟨(some 17), .arith .eql .none (.tmp 15) (.tmp 16), none, []⟩] (some [0, 1, 5, 17]))
  (.cond (.tmp 17) (.seq (.region [⟨(some 18), .mv (.tmp 5), none, []⟩, ⟨(some 4), .mv (.tmp 18), none, []⟩] (some [4]))
  .ret)
  .skip)))
  (.region [⟨(some 10), .mv (.tmp 5), none, []⟩, ⟨(some 11), .arith .add .none (.tmp 10) (.lit (.int .i64 1)), none, []⟩, ⟨(some 5), .mv (.tmp 11), none, []⟩] (some [0, 1, 5]))))
def af50 : AFunc := ⟨19, 2, [.tmp 4],
  (.seq (.region [⟨(some 4), .mv (.lit (.int .i64 0)), none, []⟩] (some [0, 1]))
  (.seq (.seq (.region [⟨(some 5), .mv (.lit (.int .i64 0)), none, []⟩] (some [0, 1, 5]))
  (.block 0 (.loop lp50_0)))
  (.seq (.region [⟨(some 4), .mv (.lit (.int .i64 (-1))), none, []⟩] (some [4]))
  .ret)))⟩
theorem cf50 : cFunc Tryd.prog (fun _ => false) (keepL keep50) Tryd.f50 = some af50 := by kernel_rfl
theorem good50 : Good Tryd.prog (50, af50) := ⟨_, _, _, Tryd.func50, cf50⟩
/-- reprise/repriseref01.blank -/
def keep51 : List (Nat × List Nat) := [(0, [0]), (1, [2])]
def af51 : AFunc := ⟨13, 1, [.tmp 2],
  (.seq (.region [⟨(some 2), .mv (.lit (.bool false)), none, []⟩] (some [0]))
  (.seq (.region [⟨(some 3), .mv (.tmp 0), none, []⟩, ⟨(some 4), .arith .eql .none (.tmp 3) (.lit (.int .u8 32)), none, []⟩, ⟨(some 5), .mv (.tmp 4), none, []⟩, ⟨(some 6), .mv (.tmp 0), (some (5, false)), []⟩, ⟨(some 7), .arith .eql .none (.tmp 6) (.lit (.int .u8 9)), (some (5, false)), []⟩, ⟨(some 8), .pick (.tmp 5) (.lit (.bool true)) (.tmp 7), none, []⟩, ⟨(some 9), .mv (.tmp 8), none, []⟩, ⟨(some 10), .mv (.tmp 0), (some (9, false)), []⟩, ⟨(some 11), .arith .eql .none (.tmp 10) (.lit (.int .u8 10)), (some (9, false)), []⟩, ⟨(some 12), .pick (.tmp 9) (.lit (.bool true)) (.tmp 11), none, []⟩, ⟨(some 2), .mv (.tmp 12), none, []⟩] (some [2]))
  .ret))⟩
theorem cf51 : cFunc Tryd.prog (fun _ => false) (keepL keep51) Tryd.f51 = some af51 := by kernel_rfl
theorem good51 : Good Tryd.prog (51, af51) := ⟨_, _, _, Tryd.func51, cf51⟩
/-- (*reprise/lexer.division).tokens$1 -/
def keep52 : List (Nat × List Nat) := [(0, [0, 1, 3]), (1, [0, 1, 3]), (2, [0, 1, 3, 33]), (4, [0, 1, 3, 38, 39, 40]), (5, [0, 1, 3, 38, 39, 40, 41]), (6, [0, 1, 3, 5, 38, 39, 40]), (7, [0, 1, 3, 6, 38, 39, 40]), (8, [0, 1, 3, 6, 38, 39, 40, 47]), (9, [0, 1, 3, 6, 7, 8]), (10, [0, 1, 3, 6, 7, 8]), (11, [0, 1, 3, 6, 67]), (12, [0, 1, 3]), (13, [0, 1, 3, 38, 39, 40]), (14, []), (3, [0, 1, 3])]
def lp52_0 : ACode :=
  (.seq (.region [⟨(some 41), .arith .lss .none (.tmp 40) (.tmp 39), none, []⟩] (some [0, 1, 3, 38, 39, 40, 41]))
  (.seq (.cond (.tmp 41) .skip
  (.exit 2))
  (.seq (.block 3 (.seq (.region [⟨(some 42), .indexAddrS 1 (.tmp 38) (.tmp 40), none, []⟩, ⟨(some 43), .load false 1 (.tmp 42), none, []⟩, ⟨(some 5), .mv (.tmp 43), none, []⟩] (some [0, 1, 3, 5, 38, 39, 40]))
  (.seq (.region [⟨(some 44), .mv (.tmp 5), none, []⟩, ⟨(some 45), .call (.val (.tmp 44)) [], none, []⟩, ⟨(some 6), .mv (.tmp 45), none, []⟩] (some [0, 1, 3, 6, 38, 39, 40]))
  (.seq (.seq (.region [⟨(some 46), .mv (.tmp 6), none, []⟩, ⟨(some 47), .arith .eql .none (.tmp 46) (.lit (.str [])), none, []⟩] (some [0, 1, 3, 6, 38, 39, 40, 47]))
  (.cond (.tmp 47) (.exit 3)
  .skip))
  (.seq (.region [⟨(some 49), .mv (.tmp 6), none, []⟩, ⟨(some 50), .call (.fn 41) [(.tmp 49)], none, []⟩, ⟨(some 48), .mv (.tmp 50), none, []⟩, ⟨(some 51), .extract (.tmp 48) 0, none, []⟩, ⟨(some 52), .extract (.tmp 48) 1, none, []⟩, ⟨(some 7), .alloc [(.int .i64 0), (.str []), (.int .i64 0), (.int .i64 0)], none, []⟩, ⟨none, .store 4 (.tmp 7) (.tmp 51), none, []⟩, ⟨(some 8), .mv (.tmp 52), none, []⟩] (some [0, 1, 3, 6, 7, 8]))
  (.seq (.region [⟨(some 53), .load false 1 (.tmp 1), none, []⟩, ⟨(some 54), .nilCheck (.tmp 53), none, []⟩, ⟨(some 55), .addOff 0 (.tmp 54), none, []⟩, ⟨(some 56), .addOff 1 (.tmp 55), none, []⟩, ⟨(some 57), .load false 1 (.tmp 56), none, []⟩, ⟨(some 58), .addOff 3 (.tmp 7), none, []⟩, ⟨none, .store 1 (.tmp 58) (.tmp 57), none, []⟩] (some [0, 1, 3, 6, 7, 8]))
  (.seq (.seq (.region [⟨(some 59), .mv (.tmp 0), none, []⟩, ⟨(some 60), .load true 4 (.tmp 7), none, []⟩, ⟨(some 61), .mv (.tmp 8), none, []⟩, ⟨(some 62), .call (.val (.tmp 59)) [(.tmp 60), (.tmp 61)], none, []⟩, ⟨(some 63), .not (.tmp 62), none, []⟩, ⟨(some 64), .mv (.tmp 63), none, []⟩, ⟨(some 65), .mv (.tmp 8), (some (64, false)), []⟩, ⟨(some 66), .not (.tmp 65), (some (64, false)), []⟩, ⟨(some 67), .pick (.tmp 64) (.lit (.bool true)) (.tmp 66), none, []⟩] (some [0, 1, 3, 6, 67]))
  (.cond (.tmp 67) .ret
  .skip))
  (.seq (.region [⟨(some 68), .load false 1 (.tmp 1), none, []⟩, ⟨(some 69), .nilCheck (.tmp 68), none, []⟩, ⟨(some 70), .addOff 0 (.tmp 69), none, []⟩, ⟨(some 71), .addOff 1 (.tmp 70), none, []⟩, ⟨(some 72), .load false 1 (.tmp 71), none, []⟩, ⟨(some 73), .mv (.tmp 6), none, []⟩, ⟨(some 74), .len true (.tmp 73), none, []⟩, ⟨(some 75), .arith .add .none (.tmp 72) (.tmp 74), none, []⟩, ⟨(some 76), .nilCheck (.tmp 68), none, []⟩, ⟨(some 77), .addOff 0 (.tmp 76), none, []⟩, ⟨(some 78), .addOff 1 (.tmp 77), none, []⟩, ⟨none, .store 1 (.tmp 78) (.tmp 75), none, []⟩] (some [0, 1, 3]))
  (.exit 1)))))))))
  (.region [⟨(some 79), .arith .add .none (.tmp 40) (.lit (.int .i64 1)), none, []⟩, ⟨(some 40), .mv (.tmp 79), none, []⟩] (some [0, 1, 3, 38, 39, 40])))))
def lp52_1 : ACode :=
  (.seq (.seq (.drawn [⟨(some 22), .load false 1 (.tmp 1), none, [1]⟩, ⟨(some 23), .nilCheck (.tmp 22), none, [22]⟩, ⟨(some 24), .addOff 0 (.tmp 23), none, [23]⟩, ⟨(some 25), .addOff 1 (.tmp 24), none, [24]⟩, ⟨(some 26), .load false 1 (.tmp 25), none, [25]⟩, ⟨(some 27), .load false 1 (.tmp 1), none, [1]⟩, ⟨(some 28), .nilCheck (.tmp 27), none, [27]⟩, ⟨(some 29), .addOff 0 (.tmp 28), none, [28]⟩, ⟨(some 30), .addOff 0 (.tmp 29), none, [29]⟩, ⟨(some 31), .load false 1 (.tmp 30), none, [30]⟩, ⟨(some 32), .len true (.tmp 31), none, [31]⟩, ⟨(some 33), .arith .lss .none (.tmp 26) (.tmp 32), none, [26, 32]⟩] [0, 1, 3, 7, 15, 0, 32, 96, 224, 480, 992, 2047] (some [0, 1, 3, 33]))
  (.cond (.tmp 33) .skip
  (.exit 0)))
  (.seq (.block 1 (.seq (.seq (.region [⟨(some 38), .mv (.tmp 3), none, []⟩, ⟨(some 39), .len false (.tmp 38), none, []⟩, ⟨(some 40), .mv (.lit (.int .i64 0)), none, []⟩] (some [0, 1, 3, 38, 39, 40]))
  (.block 2 (.loop lp52_0)))
  (.seq (.region [⟨(some 80), .mv (.tmp 0), none, []⟩, ⟨(some 81), .load false 1 (.tmp 1), none, []⟩, ⟨(some 82), .nilCheck (.tmp 81), none, []⟩, ⟨(some 83), .addOff 0 (.tmp 82), none, []⟩, ⟨(some 84), .addOff 1 (.tmp 83), none, []⟩, ⟨(some 85), .load false 1 (.tmp 84), none, []⟩, ⟨(some 86), .build [(.int .i64 0), (.str []), (.int .i64 0), (.int .i64 0)] [(3, 1, (.tmp 85))], none, []⟩, ⟨(some 87), .call (.val (.tmp 80)) [(.tmp 86), (.lit (.bool false))], none, []⟩] (some []))
  .ret)))
  (.region [⟨(some 34), .load false 1 (.tmp 1), none, []⟩, ⟨(some 35), .nilCheck (.tmp 34), none, []⟩, ⟨(some 36), .addOff 0 (.tmp 35), none, []⟩, ⟨(some 37), .call (.fn 55) [(.tmp 36)], none, []⟩] (some [0, 1, 3]))))
def af52 : AFunc := ⟨88, 2, [],
  (.scope (.seq (.drawn [⟨(some 9), .load false 1 (.tmp 1), none, [1]⟩, ⟨(some 10), .nilCheck (.tmp 9), none, [9]⟩, ⟨(some 11), .addOff 0 (.tmp 10), none, [10]⟩, ⟨(some 12), .mkFunc 53 [(.tmp 11)] [], none, [11]⟩, ⟨(some 13), .load false 1 (.tmp 1), none, [1]⟩, ⟨(some 14), .nilCheck (.tmp 13), none, [13]⟩, ⟨(some 15), .addOff 0 (.tmp 14), none, [14]⟩, ⟨(some 16), .mkFunc 54 [(.tmp 15)] [], none, [15]⟩, ⟨(some 17), .buildSlice 1 2 [.nilfunc] [(0, (.tmp 12)), (1, (.tmp 16))], none, [12, 16]⟩, ⟨(some 3), .mv (.tmp 17), none, [17]⟩] [0, 1, 3, 7, 0, 16, 48, 112, 255, 511] (some [0, 1, 3]))
  (.seq (.label 0)
  (.seq (.region [⟨(some 18), .load false 1 (.tmp 1), none, []⟩, ⟨(some 19), .nilCheck (.tmp 18), none, []⟩, ⟨(some 20), .addOff 0 (.tmp 19), none, []⟩, ⟨(some 21), .call (.fn 55) [(.tmp 20)], none, []⟩] (some [0, 1, 3]))
  (.block 0 (.loop lp52_1))))) none)⟩
theorem cf52 : cFunc Tryd.prog (fun _ => false) (keepL keep52) Tryd.f52 = some af52 := by kernel_rfl
theorem good52 : Good Tryd.prog (52, af52) := ⟨_, _, _, Tryd.func52, cf52⟩
/-- (*reprise/lexer.reader).word -/
def keep53 : List (Nat × List Nat) := [(0, [0]), (1, [0, 3]), (2, [0, 3, 24]), (3, [0, 3]), (4, [2])]
def lp53_0 : ACode :=
  (.seq (.seq (.region [⟨(some 8), .mv (.tmp 3), none, []⟩, ⟨(some 9), .mv (.tmp 0), none, []⟩, ⟨(some 10), .nilCheck (.tmp 9), none, []⟩, ⟨(some 11), .addOff 0 (.tmp 10), none, []⟩, ⟨(some 12), .load false 1 (.tmp 11), none, []⟩, ⟨(some 13), .len true (.tmp 12), none, []⟩, ⟨(some 14), .arith .lss .none (.tmp 8) (.tmp 13), none, []⟩, ⟨(some 15), .mv (.tmp 14), none, []⟩, ⟨(some 16), .mv (.tmp 0), (some (15, true)), []⟩, ⟨(some 17), .nilCheck (.tmp 16), (some (15, true)), []⟩, ⟨(some 18), .addOff 0 (.tmp 17), (some (15, true)), []⟩, ⟨(some 19), .load false 1 (.tmp 18), (some (15, true)), []⟩, ⟨(some 20), .mv (.tmp 3), (some (15, true)), []⟩, ⟨(some 21), .indexStr (.tmp 19) (.tmp 20), (some (15, true)), []⟩, ⟨(some 22), .call (.fn 67) [(.tmp 21)], (some (15, true)), []⟩, ⟨(some 23), .arith .geq .none (.tmp 22) (.lit (.int .i64 2)), (some (15, true)), []⟩, ⟨(some 24), .pick (.tmp 15) (.tmp 23) (.lit (.bool false)), none, []⟩] (some [0, 3, 24]))
  (.cond (.tmp 24) .skip
  (.exit 0)))
  (.block 1 (.region [⟨(some 25), .mv (.tmp 3), none, []⟩, ⟨(some 26), .arith .add .none (.tmp 25) (.lit (.int .i64 1)), none, []⟩, ⟨(some 3), .mv (.tmp 26), none, []⟩] (some [0, 3]))))
def af53 : AFunc := ⟨37, 1, [.tmp 2],
  (.seq (.region [⟨(some 2), .mv (.lit (.str [])), none, []⟩] (some [0]))
  (.seq (.region [⟨(some 4), .mv (.tmp 0), none, []⟩, ⟨(some 5), .nilCheck (.tmp 4), none, []⟩, ⟨(some 6), .addOff 1 (.tmp 5), none, []⟩, ⟨(some 7), .load false 1 (.tmp 6), none, []⟩, ⟨(some 3), .mv (.tmp 7), none, []⟩] (some [0, 3]))
  (.seq (.block 0 (.loop lp53_0))
  (.seq (.drawn [⟨(some 27), .mv (.tmp 0), none, [0]⟩, ⟨(some 28), .nilCheck (.tmp 27), none, [27]⟩, ⟨(some 29), .addOff 0 (.tmp 28), none, [28]⟩, ⟨(some 30), .load false 1 (.tmp 29), none, [29]⟩, ⟨(some 31), .mv (.tmp 0), none, [0]⟩, ⟨(some 32), .nilCheck (.tmp 31), none, [31]⟩, ⟨(some 33), .addOff 1 (.tmp 32), none, [32]⟩, ⟨(some 34), .load false 1 (.tmp 33), none, [33]⟩, ⟨(some 35), .mv (.tmp 3), none, [3]⟩, ⟨(some 36), .sliceStr (.tmp 30) (some (.tmp 34)) (some (.tmp 35)), none, [30, 34, 35]⟩, ⟨(some 2), .mv (.tmp 36), none, [36]⟩] [0, 1, 3, 7, 0, 16, 48, 112, 0, 511, 1023] (some [2]))
  .ret))))⟩
theorem cf53 : cFunc Tryd.prog (fun _ => false) (keepL keep53) Tryd.f53 = some af53 := by kernel_rfl
theorem good53 : Good Tryd.prog (53, af53) := ⟨_, _, _, Tryd.func53, cf53⟩
/-- (*reprise/lexer.reader).symbol -/
def keep54 : List (Nat × List Nat) := [(0, [0]), (1, [2])]
def af54 : AFunc := ⟨13, 1, [.tmp 2],
  (.seq (.region [⟨(some 2), .mv (.lit (.str [])), none, []⟩] (some [0]))
  (.seq (.drawn [⟨(some 3), .mv (.tmp 0), none, [0]⟩, ⟨(some 4), .nilCheck (.tmp 3), none, [3]⟩, ⟨(some 5), .addOff 0 (.tmp 4), none, [4]⟩, ⟨(some 6), .load false 1 (.tmp 5), none, [5]⟩, ⟨(some 7), .mv (.tmp 0), none, [0]⟩, ⟨(some 8), .nilCheck (.tmp 7), none, [7]⟩, ⟨(some 9), .addOff 1 (.tmp 8), none, [8]⟩, ⟨(some 10), .load false 1 (.tmp 9), none, [9]⟩, ⟨(some 11), .sliceStr (.tmp 6) (some (.tmp 10)) none, none, [6, 10]⟩, ⟨(some 12), .call (.fn 60) [(.tmp 11)], none, [11]⟩, ⟨(some 2), .mv (.tmp 12), none, [12]⟩] [0, 1, 3, 7, 0, 16, 48, 112, 255, 511, 1023] (some [2]))
  .ret))⟩
theorem cf54 : cFunc Tryd.prog (fun _ => false) (keepL keep54) Tryd.f54 = some af54 := by kernel_rfl
theorem good54 : Good Tryd.prog (54, af54) := ⟨_, _, _, Tryd.func54, cf54⟩
/-- (*reprise/lexer.reader).space -/
def keep55 : List (Nat × List Nat) := [(0, [0, 11]), (1, [0, 12]), (4, [0, 52]), (5, [0]), (2, [0, 44]), (3, [0])]
def lp55_0 : ACode :=
  (.seq (.seq (.drawn [⟨(some 23), .mv (.tmp 0), none, [0]⟩, ⟨(some 24), .nilCheck (.tmp 23), none, [23]⟩, ⟨(some 25), .addOff 1 (.tmp 24), none, [24]⟩, ⟨(some 26), .load false 1 (.tmp 25), none, [25]⟩, ⟨(some 27), .mv (.tmp 0), none, [0]⟩, ⟨(some 28), .nilCheck (.tmp 27), none, [27]⟩, ⟨(some 29), .addOff 0 (.tmp 28), none, [28]⟩, ⟨(some 30), .load false 1 (.tmp 29), none, [29]⟩, ⟨(some 31), .len true (.tmp 30), none, [30]⟩, ⟨(some 32), .arith .lss .none (.tmp 26) (.tmp 31), none, [26, 31]⟩, ⟨(some 33), .mv (.tmp 32), none, [32]⟩, ⟨(some 34), .mv (.tmp 0), (some (33, true)), [0, 33]⟩, ⟨(some 35), .nilCheck (.tmp 34), (some (33, true)), [34, 33]⟩, ⟨(some 36), .addOff 0 (.tmp 35), (some (33, true)), [35, 33]⟩, ⟨(some 37), .load false 1 (.tmp 36), (some (33, true)), [36, 33]⟩, ⟨(some 38), .mv (.tmp 0), (some (33, true)), [0, 33]⟩, ⟨(some 39), .nilCheck (.tmp 38), (some (33, true)), [38, 33]⟩, ⟨(some 40), .addOff 1 (.tmp 39), (some (33, true)), [39, 33]⟩, ⟨(some 41), .load false 1 (.tmp 40), (some (33, true)), [40, 33]⟩, ⟨(some 42), .indexStr (.tmp 37) (.tmp 41), (some (33, true)), [37, 41, 33]⟩, ⟨(some 43), .arith .neq .none (.tmp 42) (.lit (.int .u8 10)), (some (33, true)), [42, 33]⟩, ⟨(some 44), .pick (.tmp 33) (.tmp 43) (.lit (.bool false)), none, [33, 43]⟩] [0, 1, 3, 7, 0, 16, 48, 112, 240, 511, 1023, 2047, 4095, 8191, 16383, 2047, 34815, 100351, 231423, 524287, 1048575, 2097151] (some [0, 44]))
  (.cond (.tmp 44) .skip
  (.exit 3)))
  (.block 4 (.region [⟨(some 45), .mv (.tmp 0), none, []⟩, ⟨(some 46), .nilCheck (.tmp 45), none, []⟩, ⟨(some 47), .addOff 1 (.tmp 46), none, []⟩, ⟨(some 48), .load false 1 (.tmp 47), none, []⟩, ⟨(some 49), .arith .add .none (.tmp 48) (.lit (.int .i64 1)), none, []⟩, ⟨(some 50), .nilCheck (.tmp 45), none, []⟩, ⟨(some 51), .addOff 1 (.tmp 50), none, []⟩, ⟨none, .store 1 (.tmp 51) (.tmp 49), none, []⟩] (some [0]))))
def lp55_1 : ACode :=
  (.seq (.seq (.drawn [⟨(some 2), .mv (.tmp 0), none, [0]⟩, ⟨(some 3), .nilCheck (.tmp 2), none, [2]⟩, ⟨(some 4), .addOff 1 (.tmp 3), none, [3]⟩, ⟨(some 5), .load false 1 (.tmp 4), none, [4]⟩, ⟨(some 6), .mv (.tmp 0), none, [0]⟩, ⟨(some 7), .nilCheck (.tmp 6), none, [6]⟩, ⟨(some 8), .addOff 0 (.tmp 7), none, [7]⟩, ⟨(some 9), .load false 1 (.tmp 8), none, [8]⟩, ⟨(some 10), .len true (.tmp 9), none, [9]⟩, ⟨(some 11), .arith .lss .none (.tmp 5) (.tmp 10), none, [5, 10]⟩] [0, 1, 3, 7, 0, 16, 48, 112, 240, 511] (some [0, 11]))
  (.cond (.tmp 11) .skip
  (.exit 0)))
  (.block 1 (.block 2 (.seq (.drawn [⟨(some 13), .mv (.tmp 0), none, [0]⟩, ⟨(some 14), .nilCheck (.tmp 13), none, [13]⟩, ⟨(some 15), .addOff 0 (.tmp 14), none, [14]⟩, ⟨(some 16), .load false 1 (.tmp 15), none, [15]⟩, ⟨(some 17), .mv (.tmp 0), none, [0]⟩, ⟨(some 18), .nilCheck (.tmp 17), none, [17]⟩, ⟨(some 19), .addOff 1 (.tmp 18), none, [18]⟩, ⟨(some 20), .load false 1 (.tmp 19), none, [19]⟩, ⟨(some 21), .indexStr (.tmp 16) (.tmp 20), none, [16, 20]⟩, ⟨(some 22), .arith .eql .none (.tmp 21) (.lit (.int .u8 35)), none, [21]⟩, ⟨(some 12), .mv (.tmp 22), none, [22]⟩] [0, 1, 3, 7, 0, 16, 48, 112, 255, 511, 1023] (some [0, 12]))
  (.cond (.tmp 12) (.block 3 (.loop lp55_0))
  (.seq (.drawn [⟨(some 53), .mv (.tmp 0), none, [0]⟩, ⟨(some 54), .nilCheck (.tmp 53), none, [53]⟩, ⟨(some 55), .addOff 0 (.tmp 54), none, [54]⟩, ⟨(some 56), .load false 1 (.tmp 55), none, [55]⟩, ⟨(some 57), .mv (.tmp 0), none, [0]⟩, ⟨(some 58), .nilCheck (.tmp 57), none, [57]⟩, ⟨(some 59), .addOff 1 (.tmp 58), none, [58]⟩, ⟨(some 60), .load false 1 (.tmp 59), none, [59]⟩, ⟨(some 61), .indexStr (.tmp 56) (.tmp 60), none, [56, 60]⟩, ⟨(some 62), .call (.fn 67) [(.tmp 61)], none, [61]⟩, ⟨(some 63), .arith .eql .none (.tmp 62) (.lit (.int .i64 1)), none, [62]⟩, ⟨(some 52), .mv (.tmp 63), none, [63]⟩] [0, 1, 3, 7, 0, 16, 48, 112, 255, 511, 1023, 2047] (some [0, 52]))
  (.cond (.tmp 52) (.region [⟨(some 64), .mv (.tmp 0), none, []⟩, ⟨(some 65), .nilCheck (.tmp 64), none, []⟩, ⟨(some 66), .addOff 1 (.tmp 65), none, []⟩, ⟨(some 67), .load false 1 (.tmp 66), none, []⟩, ⟨(some 68), .arith .add .none (.tmp 67) (.lit (.int .i64 1)), none, []⟩, ⟨(some 69), .nilCheck (.tmp 64), none, []⟩, ⟨(some 70), .addOff 1 (.tmp 69), none, []⟩, ⟨none, .store 1 (.tmp 70) (.tmp 68), none, []⟩] (some [0]))
  .ret)))))))
def af55 : AFunc := ⟨71, 1, [],
  (.block 0 (.loop lp55_1))⟩
theorem cf55 : cFunc Tryd.prog (fun _ => false) (keepL keep55) Tryd.f55 = some af55 := by kernel_rfl
theorem good55 : Good Tryd.prog (55, af55) := ⟨_, _, _, Tryd.func55, cf55⟩
/-- reprise/repriseref01.long -/
def keep56 : List (Nat × List Nat) := [(0, [0, 1]), (1, [0, 1, 5]), (2, [0, 1, 5, 27]), (3, [0, 1, 5]), (4, [4])]
def lp56_0 : ACode :=
  (.seq (.seq (.region [⟨(some 6), .mv (.tmp 1), none, []⟩, ⟨(some 7), .mv (.tmp 5), none, []⟩, ⟨(some 8), .arith .add .none (.tmp 6) (.tmp 7), none, []⟩, ⟨(some 9), .mv (.tmp 0), none, []⟩, ⟨(some 10), .len true (.tmp 9), none, []⟩, ⟨(some 11), .arith .lss .none (.tmp 8) (.tmp 10), none, []⟩, ⟨(some 12), .mv (.tmp 11), none, []⟩, ⟨(some 13), .mv (.tmp 0), (some (12, true)), []⟩, ⟨(some 14), .mv (.tmp 1), (some (12, true)), []⟩, ⟨(some 15), .mv (.tmp 5), (some (12, true)), []⟩, ⟨(some 16), .arith .add .none (.tmp 14) (.tmp 15), (some (12, true)), []⟩, ⟨(some 17), .indexStr (.tmp 13) (.tmp 16), (some (12, true)), []⟩, ⟨(some 18), .call (.fn 69) [(.tmp 17)], (some (12, true)), []⟩, ⟨(some 19), .mv (.tmp 18), (some (12, true)), []⟩, ⟨(some 20), .mv (.tmp 0), (some (19, false)), []⟩, ⟨(some 21), .mv (.tmp 1), (some (19, false)), []⟩, ⟨(some 22), .mv (.tmp 5), (some (19, false)), []⟩, ⟨(some 23), .arith .add .none (.tmp 21) (.tmp 22), (some (19, false)), []⟩, ⟨(some 24), .indexStr (.tmp 20) (.tmp 23), (some (19, false)), []⟩, ⟨(some 25), .call (.fn 70) [(.tmp 24)], (some (19, false)), []⟩, ⟨(some 26), .pick (.tmp 19) (.lit (.bool true)) (.tmp 25), (some (12, true)), []⟩, ⟨(some 27), .pick (.tmp 12) (.tmp 26) (.lit (.bool false)), none, []⟩] (some [0, 1, 5, 27]))
  (.cond (.tmp 27) .skip
  (.exit 0)))
  (.block 1 (.region [⟨(some 28), .mv (.tmp 5), none, []⟩, ⟨(some 29), .arith .add .none (.tmp 28) (.lit (.int .i64 1)), none, []⟩, ⟨(some 5), .mv (.tmp 29), none, []⟩] (some [0, 1, 5]))))
def af56 : AFunc := ⟨31, 2, [.tmp 4],
  (.seq (.region [⟨(some 4), .mv (.lit (.int .i64 0)), none, []⟩] (some [0, 1]))
  (.seq (.region [⟨(some 5), .mv (.lit (.int .i64 0)), none, []⟩] (some [0, 1, 5]))
  (.seq (.block 0 (.loop lp56_0))
  (.seq (.region [⟨(some 30), .mv (.tmp 5), none, []⟩, ⟨(some 4), .mv (.tmp 30), none, []⟩] (some [4]))
  .ret))))⟩
theorem cf56 : cFunc Tryd.prog (fun _ => false) (keepL keep56) Tryd.f56 = some af56 := by kernel_rfl
theorem good56 : Good Tryd.prog (56, af56) := ⟨_, _, _, Tryd.func56, cf56⟩
/-- reprise/repriseref01.symbols -/
def keep57 : List (Nat × List Nat) := [(0, []), (1, [0])]
def af57 : AFunc := ⟨2, 0, [.tmp 0],
  (.seq (.region [⟨(some 0), .mv (.lit .empty), none, []⟩] (some []))
  (.seq (.region [⟨(some 1), .buildSlice 1 20 [(.str [])] [(0, (.lit (.str [61, 61]))), (1, (.lit (.str [45, 62]))), (2, (.lit (.str [40]))), (3, (.lit (.str [41]))), (4, (.lit (.str [123]))), (5, (.lit (.str [125]))), (6, (.lit (.str [91]))), (7, (.lit (.str [93]))), (8, (.lit (.str [44]))), (9, (.lit (.str [59]))), (10, (.lit (.str [46]))), (11, (.lit (.str [58]))), (12, (.lit (.str [61]))), (13, (.lit (.str [60]))), (14, (.lit (.str [62]))), (15, (.lit (.str [124]))), (16, (.lit (.str [64]))), (17, (.lit (.str [43]))), (18, (.lit (.str [45]))), (19, (.lit (.str [42])))], none, []⟩, ⟨(some 0), .mv (.tmp 1), none, []⟩] (some [0]))
  .ret))⟩
theorem cf57 : cFunc Tryd.prog (fun _ => false) (keepL keep57) Tryd.f57 = some af57 := by kernel_rfl
theorem good57 : Good Tryd.prog (57, af57) := ⟨_, _, _, Tryd.func57, cf57⟩
/-- reprise/repriseref01.Integer -/
def keep58 : List (Nat × List Nat) := [(0, [0]), (1, [0, 3]), (2, [0, 3, 4]), (3, [0, 3, 4, 14]), (5, [0, 3, 4, 21]), (6, [2]), (7, [0, 3, 4]), (4, [0, 3, 4]), (8, [3, 37]), (9, [2]), (10, [2])]
def lp58_0 : ACode :=
  (.seq (.seq (.region [⟨(some 5), .mv (.tmp 4), none, []⟩, ⟨(some 6), .mv (.tmp 0), none, []⟩, ⟨(some 7), .len true (.tmp 6), none, []⟩, ⟨(some 8), .arith .lss .none (.tmp 5) (.tmp 7), none, []⟩, ⟨(some 9), .mv (.tmp 8), none, []⟩, ⟨(some 10), .mv (.tmp 4), (some (9, true)), []⟩, ⟨(some 11), .call (.fn 25) [(.lit (.int .i64 999999999))], (some (9, true)), []⟩, ⟨(some 12), .len true (.tmp 11), (some (9, true)), []⟩, ⟨(some 13), .arith .leq .none (.tmp 10) (.tmp 12), (some (9, true)), []⟩, ⟨(some 14), .pick (.tmp 9) (.tmp 13) (.lit (.bool false)), none, []⟩] (some [0, 3, 4, 14]))
  (.cond (.tmp 14) .skip
  (.exit 0)))
  (.seq (.block 1 (.seq (.seq (.region [⟨(some 17), .mv (.tmp 0), none, []⟩, ⟨(some 18), .mv (.tmp 4), none, []⟩, ⟨(some 19), .indexStr (.tmp 17) (.tmp 18), none, []⟩, ⟨(some 20), .call (.fn 70) [(.tmp 19)], none, []⟩, ⟨(some 21), .not (.tmp 20), none, []⟩] (some [0, 3, 4, 21]))
  (.cond (.tmp 21) (.seq (.region [⟨(some 2), .mv (.lit (.int .i64 (-1))), none, []⟩] (some [2]))
  .ret)
  .skip))
  (.region [⟨(some 22), .mv (.tmp 3), none, []⟩, ⟨(some 23), .arith .mul .none (.lit (.int .i64 10)) (.tmp 22), none, []⟩, ⟨(some 24), .mv (.tmp 0), none, []⟩, ⟨(some 25), .mv (.tmp 4), none, []⟩, ⟨(some 26), .indexStr (.tmp 24) (.tmp 25), none, []⟩, ⟨(some 27), .arith .sub .none (.tmp 26) (.lit (.int .u8 48)), none, []⟩, ⟨(some 28), .toInt .i64 (.tmp 27), none, []⟩, ⟨(some 29), .arith .add .none (.tmp 23) (.tmp 28), none, []⟩, ⟨(some 3), .mv (.tmp 29), none, []⟩] (some [0, 3, 4]))))
  (.region [⟨(some 15), .mv (.tmp 4), none, []⟩, ⟨(some 16), .arith .add .none (.tmp 15) (.lit (.int .i64 1)), none, []⟩, ⟨(some 4), .mv (.tmp 16), none, []⟩] (some [0, 3, 4]))))
def af58 : AFunc := ⟨39, 1, [.tmp 2],
  (.seq (.region [⟨(some 2), .mv (.lit (.int .i64 0)), none, []⟩] (some [0]))
  (.seq (.region [⟨(some 3), .mv (.lit (.int .i64 0)), none, []⟩] (some [0, 3]))
  (.seq (.seq (.region [⟨(some 4), .mv (.lit (.int .i64 0)), none, []⟩] (some [0, 3, 4]))
  (.block 0 (.loop lp58_0)))
  (.seq (.seq (.region [⟨(some 30), .mv (.tmp 3), none, []⟩, ⟨(some 31), .arith .gtr .none (.tmp 30) (.lit (.int .i64 999999999)), none, []⟩, ⟨(some 32), .mv (.tmp 31), none, []⟩, ⟨(some 33), .mv (.tmp 3), (some (32, false)), []⟩, ⟨(some 34), .call (.fn 25) [(.tmp 33)], (some (32, false)), []⟩, ⟨(some 35), .mv (.tmp 0), (some (32, false)), []⟩, ⟨(some 36), .arith .neq .none (.tmp 34) (.tmp 35), (some (32, false)), []⟩, ⟨(some 37), .pick (.tmp 32) (.lit (.bool true)) (.tmp 36), none, []⟩] (some [3, 37]))
  (.cond (.tmp 37) (.seq (.region [⟨(some 2), .mv (.lit (.int .i64 (-1))), none, []⟩] (some [2]))
  .ret)
  .skip))
  (.seq (.region [⟨(some 38), .mv (.tmp 3), none, []⟩, ⟨(some 2), .mv (.tmp 38), none, []⟩] (some [2]))
  .ret)))))⟩
theorem cf58 : cFunc Tryd.prog (fun _ => false) (keepL keep58) Tryd.f58 = some af58 := by kernel_rfl
theorem good58 : Good Tryd.prog (58, af58) := ⟨_, _, _, Tryd.func58, cf58⟩
/-- reprise/lexer.integer -/
def keep59 : List (Nat × List Nat) := [(0, [0]), (1, [0, 23]), (2, [2, 3]), (3, [0, 4]), (4, [4, 25]), (5, [4, 25, 26, 27]), (6, [4, 6, 25]), (7, [4, 6, 25, 34]), (8, [2, 3]), (9, [4, 25]), (10, [2, 3])]
def lp59_0 : ACode :=
  (.seq (.region [⟨(some 26), .nextStr (.tmp 25), none, []⟩, ⟨(some 27), .extract (.tmp 26) 0, none, []⟩] (some [4, 25, 26, 27]))
  (.seq (.cond (.tmp 27) .skip
  (.exit 0))
  (.block 1 (.seq (.region [⟨(some 28), .extract (.tmp 26) 2, none, []⟩, ⟨(some 6), .mv (.tmp 28), none, []⟩] (some [4, 6, 25]))
  (.seq (.seq (.region [⟨(some 29), .mv (.tmp 6), none, []⟩, ⟨(some 30), .arith .lss .none (.tmp 29) (.lit (.int .i32 48)), none, []⟩, ⟨(some 31), .mv (.tmp 30), none, []⟩, ⟨(some 32), .mv (.tmp 6), (some (31, false)), []⟩, ⟨(some 33), .arith .gtr .none (.tmp 32) (.lit (.int .i32 57)), (some (31, false)), []⟩, ⟨(some 34), .pick (.tmp 31) (.lit (.bool true)) (.tmp 33), none, []⟩] (some [4, 6, 25, 34]))
  (.cond (.tmp 34) (.seq (.region [⟨(some 2), .mv (.lit (.int .i64 0)), none, []⟩, ⟨(some 3), .mv (.lit (.bool false)), none, []⟩] (some [2, 3]))
  .ret)
  .skip))
  (.region [⟨(some 35), .mv (.tmp 4), none, []⟩, ⟨(some 36), .arith .mul .none (.lit (.int .i64 10)) (.tmp 35), none, []⟩, ⟨(some 37), .mv (.tmp 6), none, []⟩, ⟨(some 38), .arith .sub .none (.tmp 37) (.lit (.int .i32 48)), none, []⟩, ⟨(some 39), .toInt .i64 (.tmp 38), none, []⟩, ⟨(some 40), .arith .add .none (.tmp 36) (.tmp 39), none, []⟩, ⟨(some 4), .mv (.tmp 40), none, []⟩] (some [4, 25])))))))
def af59 : AFunc := ⟨42, 1, [.tmp 2, .tmp 3],
  (.seq (.region [⟨(some 2), .mv (.lit (.int .i64 0)), none, []⟩, ⟨(some 3), .mv (.lit (.bool false)), none, []⟩] (some [0]))
  (.seq (.seq (.region [⟨(some 7), .mv (.tmp 0), none, []⟩, ⟨(some 8), .arith .eql .none (.tmp 7) (.lit (.str [])), none, []⟩, ⟨(some 9), .mv (.tmp 8), none, []⟩, ⟨(some 10), .mv (.tmp 0), (some (9, false)), []⟩, ⟨(some 11), .len true (.tmp 10), (some (9, false)), []⟩, ⟨(some 12), .arith .gtr .none (.tmp 11) (.lit (.int .i64 9)), (some (9, false)), []⟩, ⟨(some 13), .pick (.tmp 9) (.lit (.bool true)) (.tmp 12), none, []⟩, ⟨(some 14), .mv (.tmp 13), none, []⟩, ⟨(some 15), .mv (.tmp 0), (some (14, false)), []⟩, ⟨(some 16), .len true (.tmp 15), (some (14, false)), []⟩, ⟨(some 17), .arith .gtr .none (.tmp 16) (.lit (.int .i64 1)), (some (14, false)), []⟩, ⟨(some 18), .mv (.tmp 17), (some (14, false)), []⟩, ⟨(some 19), .mv (.tmp 0), (some (18, true)), []⟩, ⟨(some 20), .indexStr (.tmp 19) (.lit (.int .i64 0)), (some (18, true)), []⟩, ⟨(some 21), .arith .eql .none (.tmp 20) (.lit (.int .u8 48)), (some (18, true)), []⟩, ⟨(some 22), .pick (.tmp 18) (.tmp 21) (.lit (.bool false)), (some (14, false)), []⟩, ⟨(some 23), .pick (.tmp 14) (.lit (.bool true)) (.tmp 22), none, []⟩] (some [0, 23]))
  (.cond (.tmp 23) (.seq (.region [⟨(some 2), .mv (.lit (.int .i64 0)), none, []⟩, ⟨(some 3), .mv (.lit (.bool false)), none, []⟩] (some [2, 3]))
  .ret)
  .skip))
  (.seq (.region [⟨(some 4), .mv (.lit (.int .i64 0)), none, []⟩] (some [0, 4]))
  (.seq (.seq (.region [⟨(some 24), .mv (.tmp 0), none, []⟩, ⟨(some 25), .rangeStr (.tmp 24), none, []⟩] (some [4, 25]))
  (.block 0 (.loop lp59_0)))
  (.seq (.region [⟨(some 41), .mv (.tmp 4), none, []⟩, ⟨(some 2), .mv (.tmp 41), none, []⟩, ⟨(some 3), .mv (.lit (.bool true)), none, []⟩] (some [2, 3]))
  .ret)))))⟩
theorem cf59 : cFunc Tryd.prog (fun _ => false) (keepL keep59) Tryd.f59 = some af59 := by kernel_rfl
theorem good59 : Good Tryd.prog (59, af59) := ⟨_, _, _, Tryd.func59, cf59⟩
/-- reprise/lexer.symbol -/
def keep60 : List (Nat × List Nat) := [(0, [0]), (1, [0, 8]), (2, [2]), (3, [0, 18]), (4, [2]), (5, [2])]
def af60 : AFunc := ⟨21, 1, [.tmp 2],
  (.seq (.region [⟨(some 2), .mv (.lit (.str [])), none, []⟩] (some [0]))
  (.seq (.seq (.region [⟨(some 3), .mv (.tmp 0), none, []⟩, ⟨(some 4), .call (.fn 71) [(.tmp 3), (.lit (.str [61, 61]))], none, []⟩, ⟨(some 5), .mv (.tmp 4), none, []⟩, ⟨(some 6), .mv (.tmp 0), (some (5, false)), []⟩, ⟨(some 7), .call (.fn 71) [(.tmp 6), (.lit (.str [45, 62]))], (some (5, false)), []⟩, ⟨(some 8), .pick (.tmp 5) (.lit (.bool true)) (.tmp 7), none, []⟩] (some [0, 8]))
  (.cond (.tmp 8) (.seq (.region [⟨(some 9), .mv (.tmp 0), none, []⟩, ⟨(some 10), .sliceStr (.tmp 9) none (some (.lit (.int .i64 2))), none, []⟩, ⟨(some 2), .mv (.tmp 10), none, []⟩] (some [2]))
  .ret)
  .skip))
  (.seq (.seq (.region [⟨(some 11), .mv (.tmp 0), none, []⟩, ⟨(some 12), .arith .neq .none (.tmp 11) (.lit (.str [])), none, []⟩, ⟨(some 13), .mv (.tmp 12), none, []⟩, ⟨(some 14), .mv (.tmp 0), (some (13, true)), []⟩, ⟨(some 15), .indexStr (.tmp 14) (.lit (.int .i64 0)), (some (13, true)), []⟩, ⟨(some 16), .call (.fn 72) [(.lit (.str [40, 41, 123, 125, 91, 93, 44, 59, 46, 58, 61, 60, 62, 124, 64, 43, 45, 42])), (.tmp 15)], (some (13, true)), []⟩, ⟨(some 17), .arith .geq .none (.tmp 16) (.lit (.int .i64 0)), (some (13, true)), []⟩, ⟨(some 18), .pick (.tmp 13) (.tmp 17) (.lit (.bool false)), none, []⟩] (some [0, 18]))
  (.cond (.tmp 18) (.seq (.region [⟨(some 19), .mv (.tmp 0), none, []⟩, ⟨(some 20), .sliceStr (.tmp 19) none (some (.lit (.int .i64 1))), none, []⟩, ⟨(some 2), .mv (.tmp 20), none, []⟩] (some [2]))
  .ret)
  .skip))
  (.seq (.region [⟨(some 2), .mv (.lit (.str [])), none, []⟩] (some [2]))
  .ret))))⟩
theorem cf60 : cFunc Tryd.prog (fun _ => false) (keepL keep60) Tryd.f60 = some af60 := by kernel_rfl
theorem good60 : Good Tryd.prog (60, af60) := ⟨_, _, _, Tryd.func60, cf60⟩
/-- internal/bytealg.LastIndexByteString -/
def keep65 : List (Nat × List Nat) := [(0, [0, 1]), (1, [0, 1, 5]), (2, [0, 1, 5, 10]), (4, [0, 1, 5, 17]), (5, [4]), (3, [0, 1, 5]), (6, [4])]
def lp65_0 : ACode :=
  (.seq (.seq (.region [⟨(some 9), .mv (.tmp 5), none, []⟩, ⟨(some 10), .arith .geq .none (.tmp 9) (.lit (.int .i64 0)), none, []⟩] (some [0, 1, 5, 10]))
  (.cond (.tmp 10) .skip
  (.exit 0)))
  (.seq (.block 1 (.seq (.region [⟨(some 13), .mv (.tmp 0), none, []⟩, ⟨(some 14), .mv (.tmp 5), none, []⟩, ⟨(some 15), .indexStr (.tmp 13) (.tmp 14), none, []⟩, ⟨(some 16), .mv (.tmp 1), none, []⟩, ⟨(some 17), .arith .eql .none (.tmp 15) (.tmp 16), none, []⟩] (some [0, 1, 5, 17]))
  (.cond (.tmp 17) (.seq (.region [⟨(some 18), .mv (.tmp 5), none, []⟩, ⟨(some 4), .mv (.tmp 18), none, []⟩] (some [4]))
  .ret)
  .skip)))
  (.region [⟨(some 11), .mv (.tmp 5), none, []⟩, ⟨(some 12), .arith .sub .none (.tmp 11) (.lit (.int .i64 1)), none, []⟩, ⟨(some 5), .mv (.tmp 12), none, []⟩] (some [0, 1, 5]))))
def af65 : AFunc := ⟨19, 2, [.tmp 4],
  (.seq (.region [⟨(some 4), .mv (.lit (.int .i64 0)), none, []⟩] (some [0, 1]))
  (.seq (.seq (.region [⟨(some 6), .mv (.tmp 0), none, []⟩, ⟨(some 7), .len true (.tmp 6), none, []⟩, ⟨(some 8), .arith .sub .none (.tmp 7) (.lit (.int .i64 1)), none, []⟩, ⟨(some 5), .mv (.tmp 8), none, []⟩] (some [0, 1, 5]))
  (.block 0 (.loop lp65_0)))
  (.seq (.region [⟨(some 4), .mv (.lit (.int .i64 (-1))), none, []⟩] (some [4]))
  .ret)))⟩
theorem cf65 : cFunc Tryd.prog (fun _ => false) (keepL keep65) Tryd.f65 = some af65 := by kernel_rfl
theorem good65 : Good Tryd.prog (65, af65) := ⟨_, _, _, Tryd.func65, cf65⟩
/-- reprise/lexer.kind -/
def keep67 : List (Nat × List Nat) := [(0, [0]), (1, [0, 3]), (3, [0, 14]), (5, [0, 25]), (7, [32]), (8, [2]), (6, [2]), (4, [2]), (2, [2]), (9, [2])]
def af67 : AFunc := ⟨39, 1, [.tmp 2],
  (.seq (.region [⟨(some 2), .mv (.lit (.int .i64 0)), none, []⟩] (some [0]))
  (.seq (.block 0 (.seq (.region [⟨(some 4), .mv (.tmp 0), none, []⟩, ⟨(some 5), .arith .eql .none (.tmp 4) (.lit (.int .u8 32)), none, []⟩, ⟨(some 6), .mv (.tmp 5), none, []⟩, ⟨(some 7), .mv (.tmp 0), (some (6, false)), []⟩, ⟨(some 8), .arith .eql .none (.tmp 7) (.lit (.int .u8 9)), (some (6, false)), []⟩, ⟨(some 9), .pick (.tmp 6) (.lit (.bool true)) (.tmp 8), none, []⟩, ⟨(some 10), .mv (.tmp 9), none, []⟩, ⟨(some 11), .mv (.tmp 0), (some (10, false)), []⟩, ⟨(some 12), .arith .eql .none (.tmp 11) (.lit (.int .u8 10)), (some (10, false)), []⟩, ⟨(some 13), .pick (.tmp 10) (.lit (.bool true)) (.tmp 12), none, []⟩, ⟨(some 3), .mv (.tmp 13), none, []⟩] (some [0, 3]))
  (.cond (.tmp 3) (.seq (.region [⟨(some 2), .mv (.lit (.int .i64 1)), none, []⟩] (some [2]))
  .ret)
  (.seq (.region [⟨(some 15), .mv (.tmp 0), none, []⟩, ⟨(some 16), .arith .eql .none (.tmp 15) (.lit (.int .u8 95)), none, []⟩, ⟨(some 17), .mv (.tmp 16), none, []⟩, ⟨(some 18), .mv (.tmp 0), (some (17, false)), []⟩, ⟨(some 19), .arith .leq .none (.lit (.int .u8 97)) (.tmp 18), (some (17, false)), []⟩, ⟨(some 20), .mv (.tmp 19), (some (17, false)), []⟩, ⟨(some 21), .mv (.tmp 0), (some (20, true)), []⟩, ⟨(some 22), .arith .leq .none (.tmp 21) (.lit (.int .u8 122)), (some (20, true)), []⟩, ⟨(some 23), .pick (.tmp 20) (.tmp 22) (.lit (.bool false)), (some (17, false)), []⟩, ⟨(some 24), .pick (.tmp 17) (.lit (.bool true)) (.tmp 23), none, []⟩, ⟨(some 14), .mv (.tmp 24), none, []⟩] (some [0, 14]))
  (.cond (.tmp 14) (.seq (.region [⟨(some 2), .mv (.lit (.int .i64 2)), none, []⟩] (some [2]))
  .ret)
  (.seq (.region [⟨(some 26), .mv (.tmp 0), none, []⟩, ⟨(some 27), .arith .leq .none (.lit (.int .u8 65)) (.tmp 26), none, []⟩, ⟨(some 28), .mv (.tmp 27), none, []⟩, ⟨(some 29), .mv (.tmp 0), (some (28, true)), []⟩, ⟨(some 30), .arith .leq .none (.tmp 29) (.lit (.int .u8 90)), (some (28, true)), []⟩, ⟨(some 31), .pick (.tmp 28) (.tmp 30) (.lit (.bool false)), none, []⟩, ⟨(some 25), .mv (.tmp 31), none, []⟩] (some [0, 25]))
  (.cond (.tmp 25) (.seq (.region [⟨(some 2), .mv (.lit (.int .i64 3)), none, []⟩] (some [2]))
  .ret)
  (.seq (.region [⟨(some 33), .mv (.tmp 0), none, []⟩, ⟨(some 34), .arith .leq .none (.lit (.int .u8 48)) (.tmp 33), none, []⟩, ⟨(some 35), .mv (.tmp 34), none, []⟩, ⟨(some 36), .mv (.tmp 0), (some (35, true)), []⟩, ⟨(some 37), .arith .leq .none (.tmp 36) (.lit (.int .u8 57)), (some (35, true)), []⟩, ⟨(some 38), .pick (.tmp 35) (.tmp 37) (.lit (.bool false)), none, []⟩, ⟨(some 32), .mv (.tmp 38), none, []⟩] (some [32]))
  (.cond (.tmp 32) (.seq (.region [⟨(some 2), .mv (.lit (.int .i64 4)), none, []⟩] (some [2]))
  .ret)
  .skip)))))))))
  (.seq (.region [⟨(some 2), .mv (.lit (.int .i64 0)), none, []⟩] (some [2]))
  .ret)))⟩
theorem cf67 : cFunc Tryd.prog (fun _ => false) (keepL keep67) Tryd.f67 = some af67 := by kernel_rfl
theorem good67 : Good Tryd.prog (67, af67) := ⟨_, _, _, Tryd.func67, cf67⟩
/-- reprise/repriseref01.letter -/
def keep69 : List (Nat × List Nat) := [(0, [0]), (1, [2])]
def af69 : AFunc := ⟨21, 1, [.tmp 2],
  (.seq (.region [⟨(some 2), .mv (.lit (.bool false)), none, []⟩] (some [0]))
  (.seq (.region [⟨(some 3), .mv (.tmp 0), none, []⟩, ⟨(some 4), .arith .geq .none (.tmp 3) (.lit (.int .u8 97)), none, []⟩, ⟨(some 5), .mv (.tmp 4), none, []⟩, ⟨(some 6), .mv (.tmp 0), (some (5, true)), []⟩, ⟨(some 7), .arith .leq .none (.tmp 6) (.lit (.int .u8 122)), (some (5, true)), []⟩, ⟨(some 8), .pick (.tmp 5) (.tmp 7) (.lit (.bool false)), none, []⟩, ⟨(some 9), .mv (.tmp 8), none, []⟩, ⟨(some 10), .mv (.tmp 0), (some (9, false)), []⟩, ⟨(some 11), .arith .geq .none (.tmp 10) (.lit (.int .u8 65)), (some (9, false)), []⟩, ⟨(some 12), .mv (.tmp 11), (some (9, false)), []⟩, ⟨(some 13), .mv (.tmp 0), (some (12, true)), []⟩, ⟨(some 14), .arith .leq .none (.tmp 13) (.lit (.int .u8 90)), (some (12, true)), []⟩, ⟨(some 15), .pick (.tmp 12) (.tmp 14) (.lit (.bool false)), (some (9, false)), []⟩, ⟨(some 16), .pick (.tmp 9) (.lit (.bool true)) (.tmp 15), none, []⟩, ⟨(some 17), .mv (.tmp 16), none, []⟩, ⟨(some 18), .mv (.tmp 0), (some (17, false)), []⟩, ⟨(some 19), .arith .eql .none (.tmp 18) (.lit (.int .u8 95)), (some (17, false)), []⟩, ⟨(some 20), .pick (.tmp 17) (.lit (.bool true)) (.tmp 19), none, []⟩, ⟨(some 2), .mv (.tmp 20), none, []⟩] (some [2]))
  .ret))⟩
theorem cf69 : cFunc Tryd.prog (fun _ => false) (keepL keep69) Tryd.f69 = some af69 := by kernel_rfl
theorem good69 : Good Tryd.prog (69, af69) := ⟨_, _, _, Tryd.func69, cf69⟩
/-- reprise/repriseref01.digit -/
def keep70 : List (Nat × List Nat) := [(0, [0]), (1, [2])]
def af70 : AFunc := ⟨9, 1, [.tmp 2],
  (.seq (.region [⟨(some 2), .mv (.lit (.bool false)), none, []⟩] (some [0]))
  (.seq (.region [⟨(some 3), .mv (.tmp 0), none, []⟩, ⟨(some 4), .arith .geq .none (.tmp 3) (.lit (.int .u8 48)), none, []⟩, ⟨(some 5), .mv (.tmp 4), none, []⟩, ⟨(some 6), .mv (.tmp 0), (some (5, true)), []⟩, ⟨(some 7), .arith .leq .none (.tmp 6) (.lit (.int .u8 57)), (some (5, true)), []⟩, ⟨(some 8), .pick (.tmp 5) (.tmp 7) (.lit (.bool false)), none, []⟩, ⟨(some 2), .mv (.tmp 8), none, []⟩] (some [2]))
  .ret))⟩
theorem cf70 : cFunc Tryd.prog (fun _ => false) (keepL keep70) Tryd.f70 = some af70 := by kernel_rfl
theorem good70 : Good Tryd.prog (70, af70) := ⟨_, _, _, Tryd.func70, cf70⟩
/-- strings.HasPrefix -/
def keep71 : List (Nat × List Nat) := [(0, [0, 1]), (1, [4])]
def af71 : AFunc := ⟨8, 2, [.tmp 4],
  (.seq (.region [⟨(some 4), .mv (.lit (.bool false)), none, []⟩] (some [0, 1]))
  (.seq (.region [⟨(some 5), .mv (.tmp 0), none, []⟩, ⟨(some 6), .mv (.tmp 1), none, []⟩, ⟨(some 7), .call (.fn 80) [(.tmp 5), (.tmp 6)], none, []⟩, ⟨(some 4), .mv (.tmp 7), none, []⟩] (some [4]))
  .ret))⟩
theorem cf71 : cFunc Tryd.prog (fun _ => false) (keepL keep71) Tryd.f71 = some af71 := by kernel_rfl
theorem good71 : Good Tryd.prog (71, af71) := ⟨_, _, _, Tryd.func71, cf71⟩
/-- strings.IndexByte -/
def keep72 : List (Nat × List Nat) := [(0, [0, 1]), (1, [4])]
def af72 : AFunc := ⟨8, 2, [.tmp 4],
  (.seq (.region [⟨(some 4), .mv (.lit (.int .i64 0)), none, []⟩] (some [0, 1]))
  (.seq (.region [⟨(some 5), .mv (.tmp 0), none, []⟩, ⟨(some 6), .mv (.tmp 1), none, []⟩, ⟨(some 7), .call (.fn 81) [(.tmp 5), (.tmp 6)], none, []⟩, ⟨(some 4), .mv (.tmp 7), none, []⟩] (some [4]))
  .ret))⟩
theorem cf72 : cFunc Tryd.prog (fun _ => false) (keepL keep72) Tryd.f72 = some af72 := by kernel_rfl
theorem good72 : Good Tryd.prog (72, af72) := ⟨_, _, _, Tryd.func72, cf72⟩
/-- internal/stringslite.HasPrefix -/
def keep80 : List (Nat × List Nat) := [(0, [0, 1]), (1, [4])]
def af80 : AFunc := ⟨18, 2, [.tmp 4],
  (.seq (.region [⟨(some 4), .mv (.lit (.bool false)), none, []⟩] (some [0, 1]))
  (.seq (.region [⟨(some 5), .mv (.tmp 0), none, []⟩, ⟨(some 6), .len true (.tmp 5), none, []⟩, ⟨(some 7), .mv (.tmp 1), none, []⟩, ⟨(some 8), .len true (.tmp 7), none, []⟩, ⟨(some 9), .arith .geq .none (.tmp 6) (.tmp 8), none, []⟩, ⟨(some 10), .mv (.tmp 9), none, []⟩, ⟨(some 11), .mv (.tmp 0), (some (10, true)), []⟩, ⟨(some 12), .mv (.tmp 1), (some (10, true)), []⟩, ⟨(some 13), .len true (.tmp 12), (some (10, true)), []⟩, ⟨(some 14), .sliceStr (.tmp 11) none (some (.tmp 13)), (some (10, true)), []⟩, ⟨(some 15), .mv (.tmp 1), (some (10, true)), []⟩, ⟨(some 16), .arith .eql .none (.tmp 14) (.tmp 15), (some (10, true)), []⟩, ⟨(some 17), .pick (.tmp 10) (.tmp 16) (.lit (.bool false)), none, []⟩, ⟨(some 4), .mv (.tmp 17), none, []⟩] (some [4]))
  .ret))⟩
theorem cf80 : cFunc Tryd.prog (fun _ => false) (keepL keep80) Tryd.f80 = some af80 := by kernel_rfl
theorem good80 : Good Tryd.prog (80, af80) := ⟨_, _, _, Tryd.func80, cf80⟩
/-- internal/stringslite.IndexByte -/
def keep81 : List (Nat × List Nat) := [(0, [0, 1]), (1, [4])]
def af81 : AFunc := ⟨8, 2, [.tmp 4],
  (.seq (.region [⟨(some 4), .mv (.lit (.int .i64 0)), none, []⟩] (some [0, 1]))
  (.seq (.region [⟨(some 5), .mv (.tmp 0), none, []⟩, ⟨(some 6), .mv (.tmp 1), none, []⟩, ⟨(some 7), .call (.fn 92) [(.tmp 5), (.tmp 6)], none, []⟩, ⟨(some 4), .mv (.tmp 7), none, []⟩] (some [4]))
  .ret))⟩
theorem cf81 : cFunc Tryd.prog (fun _ => false) (keepL keep81) Tryd.f81 = some af81 := by kernel_rfl
theorem good81 : Good Tryd.prog (81, af81) := ⟨_, _, _, Tryd.func81, cf81⟩
end Go.AI

namespace Go.AI
open Go Go.Proofs
set_option maxRecDepth 100000
def tabL : List (FuncId × AFunc) := [(3, af3), (4, af4), (5, af5), (6, af6), (7, af7), (8, af8), (9, af9), (10, af10), (11, af11), (12, af12), (13, af13), (14, af14), (15, af15), (16, af16), (17, af17), (18, af18), (19, af19), (20, af20), (21, af21), (22, af22), (23, af23), (24, af24), (25, af25), (26, af26), (27, af27), (28, af28), (29, af29), (30, af30), (31, af31), (32, af32), (33, af33), (34, af34), (35, af35), (36, af36), (37, af37), (38, af38), (39, af39), (40, af40), (41, af41), (42, af42), (43, af43), (44, af44), (45, af45), (47, af47), (48, af48), (49, af49), (50, af50), (51, af51), (52, af52), (53, af53), (54, af54), (55, af55), (56, af56), (57, af57), (58, af58), (59, af59), (60, af60), (65, af65), (67, af67), (69, af69), (70, af70), (71, af71), (72, af72), (80, af80), (81, af81)]
def tabT : FuncId → Option AFunc := findL tabL
theorem tabGood : ∀ x ∈ tabL, Good Tryd.prog x :=
  List.forall_mem_cons.2 ⟨good3,
  List.forall_mem_cons.2 ⟨good4,
  List.forall_mem_cons.2 ⟨good5,
  List.forall_mem_cons.2 ⟨good6,
  List.forall_mem_cons.2 ⟨good7,
  List.forall_mem_cons.2 ⟨good8,
  List.forall_mem_cons.2 ⟨good9,
  List.forall_mem_cons.2 ⟨good10,
  List.forall_mem_cons.2 ⟨good11,
  List.forall_mem_cons.2 ⟨good12,
  List.forall_mem_cons.2 ⟨good13,
  List.forall_mem_cons.2 ⟨good14,
  List.forall_mem_cons.2 ⟨good15,
  List.forall_mem_cons.2 ⟨good16,
  List.forall_mem_cons.2 ⟨good17,
  List.forall_mem_cons.2 ⟨good18,
  List.forall_mem_cons.2 ⟨good19,
  List.forall_mem_cons.2 ⟨good20,
  List.forall_mem_cons.2 ⟨good21,
  List.forall_mem_cons.2 ⟨good22,
  List.forall_mem_cons.2 ⟨good23,
  List.forall_mem_cons.2 ⟨good24,
  List.forall_mem_cons.2 ⟨good25,
  List.forall_mem_cons.2 ⟨good26,
  List.forall_mem_cons.2 ⟨good27,
  List.forall_mem_cons.2 ⟨good28,
  List.forall_mem_cons.2 ⟨good29,
  List.forall_mem_cons.2 ⟨good30,
  List.forall_mem_cons.2 ⟨good31,
  List.forall_mem_cons.2 ⟨good32,
  List.forall_mem_cons.2 ⟨good33,
  List.forall_mem_cons.2 ⟨good34,
  List.forall_mem_cons.2 ⟨good35,
  List.forall_mem_cons.2 ⟨good36,
  List.forall_mem_cons.2 ⟨good37,
  List.forall_mem_cons.2 ⟨good38,
  List.forall_mem_cons.2 ⟨good39,
  List.forall_mem_cons.2 ⟨good40,
  List.forall_mem_cons.2 ⟨good41,
  List.forall_mem_cons.2 ⟨good42,
  List.forall_mem_cons.2 ⟨good43,
  List.forall_mem_cons.2 ⟨good44,
  List.forall_mem_cons.2 ⟨good45,
  List.forall_mem_cons.2 ⟨good47,
  List.forall_mem_cons.2 ⟨good48,
  List.forall_mem_cons.2 ⟨good49,
  List.forall_mem_cons.2 ⟨good50,
  List.forall_mem_cons.2 ⟨good51,
  List.forall_mem_cons.2 ⟨good52,
  List.forall_mem_cons.2 ⟨good53,
  List.forall_mem_cons.2 ⟨good54,
  List.forall_mem_cons.2 ⟨good55,
  List.forall_mem_cons.2 ⟨good56,
  List.forall_mem_cons.2 ⟨good57,
  List.forall_mem_cons.2 ⟨good58,
  List.forall_mem_cons.2 ⟨good59,
  List.forall_mem_cons.2 ⟨good60,
  List.forall_mem_cons.2 ⟨good65,
  List.forall_mem_cons.2 ⟨good67,
  List.forall_mem_cons.2 ⟨good69,
  List.forall_mem_cons.2 ⟨good70,
  List.forall_mem_cons.2 ⟨good71,
  List.forall_mem_cons.2 ⟨good72,
  List.forall_mem_cons.2 ⟨good80,
  List.forall_mem_cons.2 ⟨good81,
  fun _ h => nomatch h⟩⟩⟩⟩⟩⟩⟩⟩⟩⟩⟩⟩⟩⟩⟩⟩⟩⟩⟩⟩⟩⟩⟩⟩⟩⟩⟩⟩⟩⟩⟩⟩⟩⟩⟩⟩⟩⟩⟩⟩⟩⟩⟩⟩⟩⟩⟩⟩⟩⟩⟩⟩⟩⟩⟩⟩⟩⟩⟩⟩⟩⟩⟩⟩⟩
theorem tabR : TabR Tryd.prog tabT := fun f af h => findL_good tabL tabGood f af h
theorem tab3 : tabT 3 = some af3 := rfl
theorem tab4 : tabT 4 = some af4 := rfl
theorem tab5 : tabT 5 = some af5 := rfl
theorem tab6 : tabT 6 = some af6 := rfl
theorem tab7 : tabT 7 = some af7 := rfl
theorem tab8 : tabT 8 = some af8 := rfl
theorem tab9 : tabT 9 = some af9 := rfl
theorem tab10 : tabT 10 = some af10 := rfl
theorem tab11 : tabT 11 = some af11 := rfl
theorem tab12 : tabT 12 = some af12 := rfl
theorem tab13 : tabT 13 = some af13 := rfl
theorem tab14 : tabT 14 = some af14 := rfl
theorem tab15 : tabT 15 = some af15 := rfl
theorem tab16 : tabT 16 = some af16 := rfl
theorem tab17 : tabT 17 = some af17 := rfl
theorem tab18 : tabT 18 = some af18 := rfl
theorem tab19 : tabT 19 = some af19 := rfl
theorem tab20 : tabT 20 = some af20 := rfl
theorem tab21 : tabT 21 = some af21 := rfl
theorem tab22 : tabT 22 = some af22 := rfl
theorem tab23 : tabT 23 = some af23 := rfl
theorem tab24 : tabT 24 = some af24 := rfl
theorem tab25 : tabT 25 = some af25 := rfl
theorem tab26 : tabT 26 = some af26 := rfl
theorem tab27 : tabT 27 = some af27 := rfl
theorem tab28 : tabT 28 = some af28 := rfl
theorem tab29 : tabT 29 = some af29 := rfl
theorem tab30 : tabT 30 = some af30 := rfl
theorem tab31 : tabT 31 = some af31 := rfl
theorem tab32 : tabT 32 = some af32 := rfl
theorem tab33 : tabT 33 = some af33 := rfl
theorem tab34 : tabT 34 = some af34 := rfl
theorem tab35 : tabT 35 = some af35 := rfl
theorem tab36 : tabT 36 = some af36 := rfl
theorem tab37 : tabT 37 = some af37 := rfl
theorem tab38 : tabT 38 = some af38 := rfl
theorem tab39 : tabT 39 = some af39 := rfl
theorem tab40 : tabT 40 = some af40 := rfl
theorem tab41 : tabT 41 = some af41 := rfl
theorem tab42 : tabT 42 = some af42 := rfl
theorem tab43 : tabT 43 = some af43 := rfl
theorem tab44 : tabT 44 = some af44 := rfl
theorem tab45 : tabT 45 = some af45 := rfl
theorem tab47 : tabT 47 = some af47 := rfl
theorem tab48 : tabT 48 = some af48 := rfl
theorem tab49 : tabT 49 = some af49 := rfl
theorem tab50 : tabT 50 = some af50 := rfl
theorem tab51 : tabT 51 = some af51 := rfl
theorem tab52 : tabT 52 = some af52 := rfl
theorem tab53 : tabT 53 = some af53 := rfl
theorem tab54 : tabT 54 = some af54 := rfl
theorem tab55 : tabT 55 = some af55 := rfl
theorem tab56 : tabT 56 = some af56 := rfl
theorem tab57 : tabT 57 = some af57 := rfl
theorem tab58 : tabT 58 = some af58 := rfl
theorem tab59 : tabT 59 = some af59 := rfl
theorem tab60 : tabT 60 = some af60 := rfl
theorem tab65 : tabT 65 = some af65 := rfl
theorem tab67 : tabT 67 = some af67 := rfl
theorem tab69 : tabT 69 = some af69 := rfl
theorem tab70 : tabT 70 = some af70 := rfl
theorem tab71 : tabT 71 = some af71 := rfl
theorem tab72 : tabT 72 = some af72 := rfl
theorem tab80 : tabT 80 = some af80 := rfl
theorem tab81 : tabT 81 = some af81 := rfl
end Go.AI
