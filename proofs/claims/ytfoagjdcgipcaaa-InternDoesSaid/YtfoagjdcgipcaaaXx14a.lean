/- Walks of Go functions: each proves that the call answers what the Lean function of its name computes, wherever that is told; written by a program of this work out of the translation. -/
import Derived.Test.YtfoagjdcgipcaaaXx0
import Derived.Test.YtfoagjdcgipcaaaXx2
import Derived.Test.YtfoagjdcgipcaaaXx3
import Derived.Test.YtfoagjdcgipcaaaXx4
import Derived.Test.YtfoagjdcgipcaaaXx7
import Derived.Test.YtfoagjdcgipcaaaXx8
import Derived.Test.YtfoagjdcgipcaaaXx10
import Derived.Test.YtfoagjdcgipcaaaXx11
import Derived.Test.YtfoagjdcgipcaaaXx12
import Derived.Test.YtfoagjdcgipcaaaXx13
import Derived.Test.YtfoagjdcgipcaaaJa
import Derived.Test.YtfoagjdcgipcaaaJt
import Derived.Test.YtfoagjdcgipcaaaJu
import Derived.Test.YtfoagjdcgipcaaaJv
import Derived.Test.YtfoagjdcgipcaaaJw
import Derived.Test.YtfoagjdcgipcaaaJx
import Derived.Test.YtfoagjdcgipcaaaJq
import Derived.Test.YtfoagjdcgipcaaaJr
import Derived.Test.YtfoagjdcgipcaaaJy
import Derived.Test.YtfoagjdcgipcaaaKa
import Derived.Test.YtfoagjdcgipcaaaKb
import Derived.Test.YtfoagjdcgipcaaaKc
namespace Go.Proofs.Ytfoagjdcgipcaaa.X
open Go.RowKit Go.Proofs.YtfoagjdcgipcaaaW.PrintWords Go.Proofs.YtfoagjdcgipcaaaW.PrintLast

set_option linter.unusedVariables false
set_option linter.unusedSimpArgs false

/-! ### curtilagelaw05_InternDoes: function 5 -/
mutual
def curtilagelaw05_InternDoes.j0 : Nat → List (S57) → Int → Bool → List (List (S57)) → List Int → List (List (S57)) → List Int → Option (Bool)
  | 0, _, _, _, _, _, _, _ => none
  | k + 1, x2, x3, x39, x234000, x234001, x235000, x235001 => if x39 = true then ((curtilagelaw05_awake.f k).bind fun t237 => (some t237)) else ((intern_Fit.f k x234000 x234001).bind fun t238 => ((curtilageref05_Fit.f k x234000 x234001).bind fun t239 => (if (t238 != t239) = true then (curtilagelaw05_InternDoes.j1 k x2 x3 true x234000 x234001) else ((intern_Same.f x234000 x234001 x235000 x235001).bind fun t240 => ((curtilageref05_Same.f k x234000 x234001 x235000 x235001).bind fun t241 => (if (t240 != t241) = true then (curtilagelaw05_InternDoes.j1 k x2 x3 true x234000 x234001) else ((intern_Same.f x234000 x234001 x234000 x234001).bind fun t242 => (curtilagelaw05_InternDoes.j1 k x2 x3 (!t242) x234000 x234001))))))))
def curtilagelaw05_InternDoes.j1 : Nat → List (S57) → Int → Bool → List (List (S57)) → List Int → Option (Bool)
  | 0, _, _, _, _, _ => none
  | k + 1, x2, x3, x60, x234000, x234001 => if x60 = true then (some false) else ((curtilageref05_Fit.f k x234000 x234001).bind fun t243 => (if t243 = true then ((intern_Add.f k x234000 x234001 x2).bind fun bt245 => ((curtilageref05_Add.f k x234000 x234001 x2).bind fun bt254 => ((intern_Drop.f x234000 x234001 x3).bind fun bt263 => ((curtilageref05_Drop.f k x234000 x234001 x3).bind fun bt271 => ((intern_Get.f x234000 x234001 x3).bind fun bt279 => ((curtilageref05_Get.f x234000 x234001 x3).bind fun bt283 => ((intern_Find.f x234000 x234001 x2).bind fun bt287 => ((curtilageref05_Find.f k x234000 x234001 x2).bind fun bt289 => ((curtilageref05_Same.f k bt245.1 bt245.2.1 bt254.1 bt254.2.1).bind fun t291 => (if t291 = true then (if bt245.2.2.1 = bt254.2.2.1 then (if bt245.2.2.2 = bt254.2.2.2 then ((curtilageref05_Same.f k bt263.1 bt263.2.1 bt271.1 bt271.2.1).bind fun t292 => (if t292 = true then (if bt263.2.2 = bt271.2.2 then ((curtilageref02_Same.f k bt279.1 bt283.1).bind fun t293 => (if t293 = true then (if bt279.2 = bt283.2 then (if bt287.1 = bt289.1 then (if (bt287.2 == bt289.2) = true then ((intern_Used.f x234000 x234001).bind fun t294 => ((curtilageref05_Used.f k x234000 x234001).bind fun t295 => (if t294 = t295 then ((curtilageref05_Fit.f k bt245.1 bt245.2.1).bind fun t296 => (if t296 = true then ((curtilageref05_Fit.f k bt263.1 bt263.2.1).bind fun t297 => (if t297 = true then ((curtilagelaw05_awake.f k).bind fun t298 => (some t298)) else (some false))) else (some false))) else (some false)))) else (some false)) else (some false)) else (some false)) else (some false))) else (some false)) else (some false))) else (some false)) else (some false)) else (some false))))))))))) else ((curtilagelaw05_awake.f k).bind fun t244 => (some t244))))
end
def curtilagelaw05_InternDoes.f (k : Nat) (l0_0 : List (List (S57))) (l0_1 : List Int) (l1_0 : List (List (S57))) (l1_1 : List Int) (l2 : List (S57)) (a3 : Int) : Option (Bool) := (curtilagelaw05_few.f k l0_0 l0_1).bind fun t235 => (if t235 = true then ((curtilagelaw05_few.f k l1_0 l1_1).bind fun t236 => (if t236 = true then (curtilagelaw05_InternDoes.j0 k l2 a3 (decide ((l2.length : Int) > 40)) l0_0 l0_1 l1_0 l1_1) else (curtilagelaw05_InternDoes.j0 k l2 a3 true l0_0 l0_1 l1_0 l1_1))) else (curtilagelaw05_InternDoes.j0 k l2 a3 true l0_0 l0_1 l1_0 l1_1))
def curtilagelaw05_InternDoes.T3 : Bool × List (List Nat × List Nat) := (true, [([], []), ([0], [0]), ([], []), ([2, 1], [2]), ([1, 3], [1, 3]), ([4, 3], [4]), ([5], [5]), ([5], [5]), ([6, 7, 5, 5], [5, 6, 7]), ([5], [5]), ([5], [5]), ([9, 10, 8, 5], [5, 9, 10]), ([8, 11, 5], [5, 8, 11]), ([5, 12], [5, 12]), ([13, 11], [13]), ([14], [14]), ([14], [14]), ([15, 16, 14, 14], [14, 15, 16]), ([17, 14], [14, 17]), ([14, 18], [14, 18])])
def curtilagelaw05_InternDoes.B3 : List Nat := [0, 1, 0, 7, 15, 31, 63, 63, 255, 63, 63, 2047, 4095, 8191, 16383, 32767, 32767, 131071, 262143, 524287]
theorem curtilagelaw05_InternDoes.tab3 : rtab .any (opsOf Try.f5 3) = curtilagelaw05_InternDoes.T3 := by kernel_rfl
theorem curtilagelaw05_InternDoes.bits3 : waitsOk curtilagelaw05_InternDoes.T3.2 curtilagelaw05_InternDoes.B3 = true := by kernel_rfl
def curtilagelaw05_InternDoes.T15 : Bool × List (List Nat × List Nat) := (true, [([], []), ([], []), ([0, 1], [0, 1]), ([2, 2], [2]), ([3], [3]), ([3], [3]), ([4, 5, 3], [3, 4, 5]), ([3, 6], [3, 6]), ([7, 3], [7]), ([8], [8]), ([8], [8]), ([9, 10, 8], [8, 9, 10]), ([8, 11], [8, 11]), ([12, 8], [12]), ([13], [13]), ([13], [13]), ([14, 15, 13, 13], [13, 14, 15]), ([13, 16], [13, 16]), ([17, 16], [17]), ([18], [18]), ([18], [18]), ([19, 20, 18], [18, 19, 20]), ([18, 21], [18, 21]), ([22, 18], [22]), ([23], [23]), ([23], [23]), ([24, 25, 23, 23], [23, 24, 25]), ([23, 26], [23, 26]), ([27, 26], [27]), ([28], [28]), ([28], [28]), ([29, 30, 28], [28, 29, 30]), ([28, 31], [28, 31]), ([32, 28], [32]), ([33], [33]), ([33], [33]), ([34, 35, 33], [33, 34, 35]), ([33, 36], [33, 36]), ([37, 33], [37]), ([38], [38]), ([38], [38]), ([39, 40, 38], [38, 39, 40]), ([38, 41], [38, 41]), ([42, 38], [42]), ([43], [43]), ([44, 43, 43], [43, 44]), ([43], [43]), ([46, 45, 43], [43, 46]), ([45, 47, 43], [43, 45, 47]), ([43, 48], [43, 48]), ([49, 47], [49]), ([50], [50]), ([51, 50, 50], [50, 51]), ([50, 52], [50, 52]), ([53, 52], [53]), ([54], [54]), ([55, 54, 54], [54, 55]), ([54, 56], [54, 56]), ([57, 56], [57]), ([58, 58], [58]), ([58, 59], [58, 59]), ([60, 59, 0, 1, 2, 3, 4, 5, 6, 7, 8, 9, 10, 11, 12, 13, 14, 15, 16, 17, 18, 19, 20, 21, 22, 23, 24, 25, 26, 27, 28, 29, 30, 31, 32, 33, 34, 35, 36, 37, 38, 39, 40, 41, 42, 43, 44, 45, 46, 47, 48, 49, 50, 51, 52, 53, 54, 55, 56, 57, 58, 59, 60], [60])])
def curtilagelaw05_InternDoes.B15 : List Nat := [0, 0, 3, 7, 15, 15, 63, 127, 255, 511, 511, 2047, 4095, 8191, 16383, 16383, 65535, 131071, 262143, 524287, 524287, 2097151, 4194303, 8388607, 16777215, 16777215, 67108863, 134217727, 268435455, 536870911, 536870911, 2147483647, 4294967295, 8589934591, 17179869183, 17179869183, 68719476735, 137438953471, 274877906943, 549755813887, 549755813887, 2199023255551, 4398046511103, 8796093022207, 17592186044415, 35184372088831, 17592186044415, 140737488355327, 281474976710655, 562949953421311, 1125899906842623, 2251799813685247, 4503599627370495, 9007199254740991, 18014398509481983, 36028797018963967, 72057594037927935, 144115188075855871, 288230376151711743, 576460752303423487, 1152921504606846975, 2305843009213693951]
theorem curtilagelaw05_InternDoes.tab15 : rtab .any (opsOf Try.f5 15) = curtilagelaw05_InternDoes.T15 := by kernel_rfl
theorem curtilagelaw05_InternDoes.bits15 : waitsOk curtilagelaw05_InternDoes.T15.2 curtilagelaw05_InternDoes.B15 = true := by kernel_rfl
theorem curtilagelaw05_InternDoes.j1_dead : ∀ k y0 y1 y3 y4, ¬ (curtilagelaw05_InternDoes.j1 k y0 y1 true y3 y4 = some true) := by
  intro k
  cases k <;> simp [curtilagelaw05_InternDoes.j1]
end Go.Proofs.Ytfoagjdcgipcaaa.X
