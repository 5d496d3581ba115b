/- Texts of this claim that stand one behind another, merged. -/
import Derived.Test.YtbelnkdbghggmaaGreatDoorXx0
import Derived.Deep.WholeRow
import Derived.Lib.Bytealg
import Derived.RangeFuncNested
import Derived.RangeFuncBound
import Derived.RangeFuncCalls
import Derived.RangeFuncLeaves
import Derived.Shelf.Abstract
import Derived.Shelf.AbstractIn
import Derived.Shelf.RegionOpen
import Derived.OwnWalkIn
import Derived.TacticsInMore
import Derived.LoopNIn
import Derived.LoopIn
import Derived.Lib.Hide
import Derived.Laws.EntriesVeiled
import Derived.WalkSpells
import Derived.Sort.QuietIn
import Derived.Lib.SliceRun
import Derived.Deep.RegionHeld3
import Derived.Deep.DeepCutAuto
import Derived.Shelf.Strings.Builder1
import Derived.Shelf.Small.Strs
import Derived.Shelf.Small.Wraps
import Derived.Shelf.Strings.BuilderF
import Derived.Shelf.Strings.BuilderK
import Derived.Shelf.Utf8.RuneCount
import Derived.Shelf.Strconv.Itoa0
import Derived.Shelf.Strconv.Itoa1
import Derived.Shelf.LaysM
import Derived.Shelf.Strconv.Itoa2
import Derived.Shelf.Strconv.Itoa3
import Derived.Shelf.Strconv.ParseIntEmpty
import Derived.Shelf.Strconv.Clone
import Derived.Shelf.Strconv.SyntaxError
import Derived.Shelf.LaysC
import Derived.Shelf.Strconv.ToError
import Derived.Shelf.Strconv.Lower
import Derived.Shelf.Strconv.ParseUint10
import Derived.Shelf.Strconv.ParseUint10Empty
import Derived.Shelf.Strconv.ParseUint10Any
import Derived.Shelf.Strconv.ParseInt10
import Derived.Shelf.Strconv.RangeError
import Derived.Shelf.Strconv.ToErrorRange
import Derived.Shelf.Strconv.ParseUintEmpty
import Derived.Shelf.Strconv.ParseUint10b64
import Derived.Shelf.Strconv.ParseUint10b32
import Derived.Shelf.Strconv.ParseUint10b16
import Derived.Shelf.Strconv.ParseUint10b8
import Derived.Shelf.Strconv.ParseUint10At
import Derived.Shelf.Strconv.ParseInt10At64
import Derived.Shelf.Strconv.ParseInt10At32
import Derived.Shelf.Strconv.ParseInt10At16
import Derived.Shelf.Strconv.ParseInt10At8
import Derived.Shelf.Strconv.ParseInt10All
import Derived.Shelf.Strconv.ParseIntPublic10
import Derived.Shelf.Strconv.ErrVarParseInt
import Derived.Shelf.Strings.Search1
import Derived.Shelf.Strings.Search2
import Derived.Shelf.Strings.Search3
import Derived.Shelf.Strings.Cut
import Derived.Shelf.Strings.Count
import Derived.Shelf.Strings.Shaped
import Derived.Shelf.Strings.Prefix
import Derived.Shelf.Strings.Split
import Derived.Shelf.Strings.SplitShaped
import Derived.Shelf.Unicode.Decode
import Derived.Shelf.Strings.RuneCount
import Derived.Shelf.Strings.Explode
import Derived.Shelf.Unicode.DecodeSlow
import Derived.Shelf.Unicode.DecodeAny
import Derived.Test.YtbelnkdbghggmaaGreatDoorProg
import Derived.Lib.AppendIntMem
import Derived.Lib.ItoaLen
import Derived.Sort.CutIn
import Derived.Laws.BitsLemmas
namespace Go.Proofs.YtbelnkdbghggmaaGreatDoor.X
open Go.RowKit Go.Proofs.YtbelnkdbghggmaaGreatDoorW.PrintWords Go.Proofs.YtbelnkdbghggmaaGreatDoorW.PrintLast

set_option linter.unusedVariables false
set_option linter.unusedSimpArgs false

/-! ### inst_known: function 57 -/
def inst_known.f (a0 : Int) : Option (Bool) := if a0 ≥ 0 then (some (decide (a0 < 26))) else (some false)
set_option maxHeartbeats 8000000 in
set_option maxRecDepth 100000 in
theorem inst_known.calls (a0 : Int) (r : Bool) (w : World) (h : inst_known.f a0 = some r) :
    Calls Tryz.prog 57 #[.int .i64 a0] w fun e w' => e = .returned (.bool r) ∧ Drawn0 w w' := by
  have H : (if a0 ≥ 0 then (some (decide (a0 < 26))) else (some false)) = some r := h
  clear h
  by_cases c2 : a0 ≥ 0
  · rw [if_pos c2] at H
    have c2b0 : decide (0 ≤ a0) = true := decide_eq_true c2
    clear c2
    obtain rfl := Option.some.inj H
    go_enter Tryz.func57, Tryz.ntmps57
    go_wp2
    go_ret
    exact ⟨by first | rfl | (simp; done) | (simp [*]; done), by repeat (first | exact Drawn0.refl _ | apply Drawn0.step)⟩
  · rw [if_neg c2] at H
    have c2b0 : decide (0 ≤ a0) = false := decide_eq_false c2
    clear c2
    obtain rfl := Option.some.inj H
    go_enter Tryz.func57, Tryz.ntmps57
    go_wp2
    go_ret
    exact ⟨by first | rfl | (simp; done) | (simp [*]; done), by repeat (first | exact Drawn0.refl _ | apply Drawn0.step)⟩

-- NOT PRINTED: function 53 (inst_parts)

-- NOT PRINTED: function 40 (inst_Fit)

-- NOT PRINTED: function 50 (inst_Encode)

-- NOT PRINTED: function 24 (inst_Decode)
end Go.Proofs.YtbelnkdbghggmaaGreatDoor.X
namespace Go.Proofs.YtbelnkdbghggmaaGreatDoor.X
open Go.RowKit Go.Proofs.YtbelnkdbghggmaaGreatDoorW.PrintWords Go.Proofs.YtbelnkdbghggmaaGreatDoorW.PrintLast
set_option linter.unusedVariables false
set_option linter.unusedSimpArgs false
/-- What each instruction is called, and which parts it uses. -/
def kindsL : List (ByteArray × ByteArray) := [((⟨#[104, 97, 108, 116]⟩ : ByteArray), (⟨#[]⟩ : ByteArray)), ((⟨#[109, 111, 118, 105]⟩ : ByteArray), (⟨#[97, 105]⟩ : ByteArray)), ((⟨#[109, 111, 118, 104]⟩ : ByteArray), (⟨#[97, 105]⟩ : ByteArray)), ((⟨#[109, 111, 118]⟩ : ByteArray), (⟨#[97, 98]⟩ : ByteArray)), ((⟨#[97, 100, 100]⟩ : ByteArray), (⟨#[97, 98, 99]⟩ : ByteArray)), ((⟨#[115, 117, 98]⟩ : ByteArray), (⟨#[97, 98, 99]⟩ : ByteArray)), ((⟨#[109, 117, 108]⟩ : ByteArray), (⟨#[97, 98, 99]⟩ : ByteArray)), ((⟨#[100, 105, 118]⟩ : ByteArray), (⟨#[97, 98, 99]⟩ : ByteArray)), ((⟨#[114, 101, 109]⟩ : ByteArray), (⟨#[97, 98, 99]⟩ : ByteArray)), ((⟨#[97, 110, 100]⟩ : ByteArray), (⟨#[97, 98, 99]⟩ : ByteArray)), ((⟨#[111, 114]⟩ : ByteArray), (⟨#[97, 98, 99]⟩ : ByteArray)), ((⟨#[120, 111, 114]⟩ : ByteArray), (⟨#[97, 98, 99]⟩ : ByteArray)), ((⟨#[115, 104, 108]⟩ : ByteArray), (⟨#[97, 98, 99]⟩ : ByteArray)), ((⟨#[115, 104, 114]⟩ : ByteArray), (⟨#[97, 98, 99]⟩ : ByteArray)), ((⟨#[97, 100, 100, 105]⟩ : ByteArray), (⟨#[97, 98, 105]⟩ : ByteArray)), ((⟨#[101, 113]⟩ : ByteArray), (⟨#[97, 98, 99]⟩ : ByteArray)), ((⟨#[108, 116, 117]⟩ : ByteArray), (⟨#[97, 98, 99]⟩ : ByteArray)), ((⟨#[108, 116, 115]⟩ : ByteArray), (⟨#[97, 98, 99]⟩ : ByteArray)), ((⟨#[106, 109, 112]⟩ : ByteArray), (⟨#[105]⟩ : ByteArray)), ((⟨#[106, 122]⟩ : ByteArray), (⟨#[97, 105]⟩ : ByteArray)), ((⟨#[106, 110, 122]⟩ : ByteArray), (⟨#[97, 105]⟩ : ByteArray)), ((⟨#[99, 97, 108, 108]⟩ : ByteArray), (⟨#[97, 105]⟩ : ByteArray)), ((⟨#[106, 114]⟩ : ByteArray), (⟨#[97]⟩ : ByteArray)), ((⟨#[108, 111, 97, 100]⟩ : ByteArray), (⟨#[97, 98, 105]⟩ : ByteArray)), ((⟨#[115, 116, 111, 114, 101]⟩ : ByteArray), (⟨#[97, 98, 105]⟩ : ByteArray)), ((⟨#[116, 114, 97, 112]⟩ : ByteArray), (⟨#[105]⟩ : ByteArray))]
def kindsV : Array Value := #[.string (⟨#[104, 97, 108, 116]⟩ : ByteArray), .string (⟨#[]⟩ : ByteArray), .string (⟨#[109, 111, 118, 105]⟩ : ByteArray), .string (⟨#[97, 105]⟩ : ByteArray), .string (⟨#[109, 111, 118, 104]⟩ : ByteArray), .string (⟨#[97, 105]⟩ : ByteArray), .string (⟨#[109, 111, 118]⟩ : ByteArray), .string (⟨#[97, 98]⟩ : ByteArray), .string (⟨#[97, 100, 100]⟩ : ByteArray), .string (⟨#[97, 98, 99]⟩ : ByteArray), .string (⟨#[115, 117, 98]⟩ : ByteArray), .string (⟨#[97, 98, 99]⟩ : ByteArray), .string (⟨#[109, 117, 108]⟩ : ByteArray), .string (⟨#[97, 98, 99]⟩ : ByteArray), .string (⟨#[100, 105, 118]⟩ : ByteArray), .string (⟨#[97, 98, 99]⟩ : ByteArray), .string (⟨#[114, 101, 109]⟩ : ByteArray), .string (⟨#[97, 98, 99]⟩ : ByteArray), .string (⟨#[97, 110, 100]⟩ : ByteArray), .string (⟨#[97, 98, 99]⟩ : ByteArray), .string (⟨#[111, 114]⟩ : ByteArray), .string (⟨#[97, 98, 99]⟩ : ByteArray), .string (⟨#[120, 111, 114]⟩ : ByteArray), .string (⟨#[97, 98, 99]⟩ : ByteArray), .string (⟨#[115, 104, 108]⟩ : ByteArray), .string (⟨#[97, 98, 99]⟩ : ByteArray), .string (⟨#[115, 104, 114]⟩ : ByteArray), .string (⟨#[97, 98, 99]⟩ : ByteArray), .string (⟨#[97, 100, 100, 105]⟩ : ByteArray), .string (⟨#[97, 98, 105]⟩ : ByteArray), .string (⟨#[101, 113]⟩ : ByteArray), .string (⟨#[97, 98, 99]⟩ : ByteArray), .string (⟨#[108, 116, 117]⟩ : ByteArray), .string (⟨#[97, 98, 99]⟩ : ByteArray), .string (⟨#[108, 116, 115]⟩ : ByteArray), .string (⟨#[97, 98, 99]⟩ : ByteArray), .string (⟨#[106, 109, 112]⟩ : ByteArray), .string (⟨#[105]⟩ : ByteArray), .string (⟨#[106, 122]⟩ : ByteArray), .string (⟨#[97, 105]⟩ : ByteArray), .string (⟨#[106, 110, 122]⟩ : ByteArray), .string (⟨#[97, 105]⟩ : ByteArray), .string (⟨#[99, 97, 108, 108]⟩ : ByteArray), .string (⟨#[97, 105]⟩ : ByteArray), .string (⟨#[106, 114]⟩ : ByteArray), .string (⟨#[97]⟩ : ByteArray), .string (⟨#[108, 111, 97, 100]⟩ : ByteArray), .string (⟨#[97, 98, 105]⟩ : ByteArray), .string (⟨#[115, 116, 111, 114, 101]⟩ : ByteArray), .string (⟨#[97, 98, 105]⟩ : ByteArray), .string (⟨#[116, 114, 97, 112]⟩ : ByteArray), .string (⟨#[105]⟩ : ByteArray)]
theorem run_store_new {P : Program} {a : Act} {o : Oper} (t : TypeId) (x y : Operand) (ho : o.op = .store t x y) (w : World) (c c' : Array Value) (hx : a.eval x = .pointer (some ⟨w.heap.size, 0, none⟩)) (hy : a.eval y = .agg c') (hi : (P.info? t).map (·.size) = some c'.size) (hs : c.size = c'.size) (h1 : c'.all (·.oneCell') = true) :
    (execOp a.eval o).run P (w.alloc (.cells c t)) = .ok .skip (w.alloc (.cells c' t)) := by
  unfold execOp
  simp only [ho, hx, hy, Sem.run_bind, Sem.run_pure, run_storeAt_new w t c c' hi hs h1, Result.andThen_ok]
def zerosV : Array Value := #[.string ByteArray.empty, .string ByteArray.empty, .string ByteArray.empty, .string ByteArray.empty, .string ByteArray.empty, .string ByteArray.empty, .string ByteArray.empty, .string ByteArray.empty, .string ByteArray.empty, .string ByteArray.empty, .string ByteArray.empty, .string ByteArray.empty, .string ByteArray.empty, .string ByteArray.empty, .string ByteArray.empty, .string ByteArray.empty, .string ByteArray.empty, .string ByteArray.empty, .string ByteArray.empty, .string ByteArray.empty, .string ByteArray.empty, .string ByteArray.empty, .string ByteArray.empty, .string ByteArray.empty, .string ByteArray.empty, .string ByteArray.empty, .string ByteArray.empty, .string ByteArray.empty, .string ByteArray.empty, .string ByteArray.empty, .string ByteArray.empty, .string ByteArray.empty, .string ByteArray.empty, .string ByteArray.empty, .string ByteArray.empty, .string ByteArray.empty, .string ByteArray.empty, .string ByteArray.empty, .string ByteArray.empty, .string ByteArray.empty, .string ByteArray.empty, .string ByteArray.empty, .string ByteArray.empty, .string ByteArray.empty, .string ByteArray.empty, .string ByteArray.empty, .string ByteArray.empty, .string ByteArray.empty, .string ByteArray.empty, .string ByteArray.empty, .string ByteArray.empty, .string ByteArray.empty]
theorem kinds_info : (Tryz.prog.info? 97).map (·.size) = some kindsV.size := by kernel_rfl
theorem kinds_one : kindsV.all (·.oneCell') = true := by kernel_rfl
set_option maxRecDepth 100000 in
set_option maxHeartbeats 8000000 in
theorem kinds_any (w : World) : Calls Tryz.prog 52 #[] w fun e w' => e = .returned (.agg kindsV) ∧ Below w.heap.size w w' := by
  have hu49 := Tryz.underlying97
  have hu48 := Tryz.underlying96
  have HB := Aside0.mk (Below.refl w.heap.size w)
  go_enter Tryz.func52, Tryz.ntmps52
  go_wp2_with ((with_reducible refine gate_store (t := 97) (p := 0) rfl ?_); refine store_event (t := 97) (p := 0) (v := .tmp 27) (w1 := w.alloc (.cells kindsV 97)) rfl rfl rfl ?hr ?_; (case hr => exact run_store_new 97 (.tmp 0) (.tmp 27) rfl w zerosV kindsV rfl rfl kinds_info rfl kinds_one); intro w1 hw; subst hw)
  refine bodyPost_ret (results_cell_row rfl _ _ w.heap.size 97 kindsV (0, 0) _ rfl (blk_new w _) Tryz.underlying97 rfl kinds_info) rfl ?_
  exact ⟨rfl, below_alloc (Below.refl _ _) _⟩
end Go.Proofs.YtbelnkdbghggmaaGreatDoor.X
namespace Go.Proofs.YtbelnkdbghggmaaGreatDoor.X
open Go.RowKit Go.Proofs.YtbelnkdbghggmaaGreatDoorW.PrintWords Go.Proofs.YtbelnkdbghggmaaGreatDoorW.PrintLast
set_option linter.unusedVariables false
set_option linter.unusedSimpArgs false
/-- What an instruction is called; which parts it uses. -/
def nameN (n : Nat) : ByteArray := (kindsL.getD n (ByteArray.empty, ByteArray.empty)).1
def shapeN (n : Nat) : ByteArray := (kindsL.getD n (ByteArray.empty, ByteArray.empty)).2
def shapeOf (op : Int) : ByteArray := if 0 ≤ op ∧ op < 26 then shapeN op.toNat else ByteArray.empty
theorem kinds_at : ∀ n, n < 26 → kindsV.extract (n * 2) (n * 2 + 2) = #[.string (nameN n), .string (shapeN n)]
  | 0, _ => rfl
  | 1, _ => rfl
  | 2, _ => rfl
  | 3, _ => rfl
  | 4, _ => rfl
  | 5, _ => rfl
  | 6, _ => rfl
  | 7, _ => rfl
  | 8, _ => rfl
  | 9, _ => rfl
  | 10, _ => rfl
  | 11, _ => rfl
  | 12, _ => rfl
  | 13, _ => rfl
  | 14, _ => rfl
  | 15, _ => rfl
  | 16, _ => rfl
  | 17, _ => rfl
  | 18, _ => rfl
  | 19, _ => rfl
  | 20, _ => rfl
  | 21, _ => rfl
  | 22, _ => rfl
  | 23, _ => rfl
  | 24, _ => rfl
  | 25, _ => rfl
  | n + 26, h => absurd h (by omega)
theorem index_kinds (n : Nat) (hn : n < 26) (w : World) : (Instr.index 97 (.agg kindsV) (.int .i64 (n : Int))).run Tryz.prog w = .ok (.agg #[.string (nameN n), .string (shapeN n)]) w := by
  have h := Tryz.underlying97
  have hn1 : 0 ≤ (n : Int) ∧ (n : Int) < ((26 : Nat) : Int) := by omega
  rw [← kinds_at n hn]
  simp [Instr.index, run_underlying h, asIntOf, hn1, go_sem]
  intro hh
  omega
theorem field_kinds (a b : ByteArray) (w : World) : (Instr.field 96 (.agg #[.string a, .string b]) 1).run Tryz.prog w = .ok (.string b) w := by
  have h := Tryz.underlying96
  have h9 := Tryz.underlying9
  have hc9 : Tryz.prog.cellsOf 9 = 1 := by kernel_rfl
  simp [Instr.field, run_underlying h, run_underlying h9, hc9, asAgg, go_sem]
theorem field_name (a b : ByteArray) (w : World) : (Instr.field 96 (.agg #[.string a, .string b]) 0).run Tryz.prog w = .ok (.string a) w := by
  have h := Tryz.underlying96
  have h9 := Tryz.underlying9
  have hc9 : Tryz.prog.cellsOf 9 = 1 := by kernel_rfl
  simp [Instr.field, run_underlying h, run_underlying h9, hc9, asAgg, go_sem]
set_option maxRecDepth 100000 in
set_option maxHeartbeats 8000000 in
theorem Shape_in (n : Nat) (hn : n < 26) (w : World) : Calls Tryz.prog 31 #[.int .i64 (n : Int)] w fun e w' => e = .returned (.string (shapeN n)) ∧ Below w.heap.size w w' := by
  have hu49 := Tryz.underlying97
  have hu48 := Tryz.underlying96
  have HK := Aside0.mk (show inst_known.f (n : Int) = some true by unfold inst_known.f; rw [if_pos (by omega), decide_eq_true (by omega)])
  have hix := fun W => index_kinds n hn W
  have hfi := fun W => field_kinds (nameN n) (shapeN n) W
  go_enter Tryz.func31, Tryz.ntmps31
  go_wp2_with (first | (go_at_call 57; (with_reducible refine (inst_known.calls (n : Int) true _ HK.out).mono ?_); rintro e w1 ⟨rfl, ⟨nd, rfl⟩⟩) | (go_at_call 52; (with_reducible refine (kinds_any _).mono ?_); rintro e w2 ⟨rfl, hb⟩))
  go_ret
  exact ⟨rfl, below_step (by repeat (first | exact Below.refl _ _ | apply pw_below_drewN | apply below_drew1)) hb⟩
set_option maxRecDepth 100000 in
set_option maxHeartbeats 8000000 in
theorem Shape_out (op : Int) (h : ¬ (0 ≤ op ∧ op < 26)) (w : World) : Calls Tryz.prog 31 #[.int .i64 op] w fun e w' => e = .returned (.string ByteArray.empty) ∧ Below w.heap.size w w' := by
  have HK := Aside0.mk (show inst_known.f op = some false by
    unfold inst_known.f
    by_cases h0 : op ≥ 0
    · rw [if_pos h0, decide_eq_false (by omega)]
    · rw [if_neg h0])
  clear h
  go_enter Tryz.func31, Tryz.ntmps31
  go_wp2_with (go_at_call 57; (with_reducible refine (inst_known.calls op false _ HK.out).mono ?_); rintro e w1 ⟨rfl, ⟨nd, rfl⟩⟩)
  go_ret
  exact ⟨rfl, by repeat (first | exact Below.refl _ _ | apply pw_below_drewN | apply below_drew1)⟩
def inst_Shape.f (a0 : Int) : Option ByteArray := some (shapeOf a0)
theorem inst_Shape.calls (a0 : Int) (r : ByteArray) (w : World) (h : inst_Shape.f a0 = some r) :
    Calls Tryz.prog 31 #[.int .i64 a0] w fun e w' => e = .returned (.string r) ∧ Below w.heap.size w w' := by
  obtain rfl := Option.some.inj h
  unfold shapeOf
  by_cases hh : 0 ≤ a0 ∧ a0 < 26
  · rw [if_pos hh]
    obtain ⟨n, rfl⟩ : ∃ m : Nat, a0 = (m : Int) := ⟨a0.toNat, by omega⟩
    rw [Int.toNat_natCast]
    exact Shape_in n (by omega) w
  · rw [if_neg hh]
    exact Shape_out a0 hh w
end Go.Proofs.YtbelnkdbghggmaaGreatDoor.X
namespace Go.Proofs.YtbelnkdbghggmaaGreatDoor.X
open Go.RowKit Go.Proofs.YtbelnkdbghggmaaGreatDoorW.PrintWords Go.Proofs.YtbelnkdbghggmaaGreatDoorW.PrintLast
set_option linter.unusedVariables false
set_option linter.unusedSimpArgs false
set_option maxHeartbeats 1000000 in
set_option maxRecDepth 100000 in
theorem liteIndexByte_any (s : ByteArray) (c : Int) (w : World) :
    Calls Tryz.prog 70 #[.string s, .int .u8 c] w fun e w' => e = .returned (.int .i64 (Lib.indexByte s.data.toList c.toNat.toUInt8)) ∧ w' = w := by
  go_enter Tryz.func70, Tryz.ntmps70
  go_wp2
  rw [run_callFunc_extern Tryz.func81 (by kernel_rfl) (by kernel_rfl) (by kernel_rfl) (e := Extern.BytealgIndexByte.indexByte) (by kernel_rfl), Lib.run_indexByteString]
  simp only [Result.andThen]
  rw [Oper.upon_value]
  go_wp2
  go_ret
  exact ⟨rfl, rfl⟩
set_option maxHeartbeats 1000000 in
set_option maxRecDepth 100000 in
theorem IndexByte_any (s : ByteArray) (c : Int) (w : World) :
    Calls Tryz.prog 69 #[.string s, .int .u8 c] w fun e w' => e = .returned (.int .i64 (Lib.indexByte s.data.toList c.toNat.toUInt8)) ∧ w' = w := by
  go_enter Tryz.func69, Tryz.ntmps69
  go_wp2_with (go_at_call 70; (with_reducible refine (liteIndexByte_any s c _).mono ?_); rintro e w1 ⟨rfl, rfl⟩)
  go_ret
  exact ⟨rfl, rfl⟩
end Go.Proofs.YtbelnkdbghggmaaGreatDoor.X
namespace Go.Proofs.YtbelnkdbghggmaaGreatDoor.X
open Go.RowKit Go.Shelf Go.Proofs.YtbelnkdbghggmaaGreatDoorW.PrintWords Go.Proofs.YtbelnkdbghggmaaGreatDoorW.PrintLast
attribute [local go_sem] Oper.semAt_some
set_option linter.unusedVariables false
set_option linter.unusedSimpArgs false
/-- What a yield leaves: the elder world, and every block of cells but one. -/
def KeepC (n₀ R : Nat) (A B : World) : Prop := Below n₀ A B ∧ ∀ (i : Nat) (o : Obj), i ≠ R → A.heap[i]? = some o → o.isCells = true → B.heap[i]? = some o
theorem KeepC.refl (n₀ R : Nat) (A : World) : KeepC n₀ R A A := ⟨Below.refl _ _, fun _ _ _ h _ => h⟩
theorem KeepC.trans {n₀ R : Nat} {A B C : World} (h : KeepC n₀ R A B) (k : KeepC n₀ R B C) : KeepC n₀ R A C :=
  ⟨h.1.trans k.1, fun i o hi ho hc => k.2 i o hi (h.2 i o hi ho hc) hc⟩
theorem KeepC.putObj {n₀ R : Nat} {w : World} (hn : n₀ ≤ w.heap.size) (W : World) (l : Nat) (o o' : Obj) (hl : w.heap.size ≤ l) (h : W.heap[l]? = some o) (h1 : o.isCells = false) (h2 : o.isWalk = false) : KeepC n₀ R W (W.putObj l o') :=
  ⟨belowK_b hn W l o o' hl h h1 h2, fun i p hi hp hc => (World.putObj_heap_other (fun e => by subst e; rw [h] at hp; injection hp with hp; rw [← hp, h1] at hc; cases hc)).trans hp⟩
theorem KeepC.of_below {n₀ R : Nat} {A B : World} (h : Below A.heap.size A B) (hn : n₀ ≤ A.heap.size) : KeepC n₀ R A B :=
  ⟨h.mono hn, fun i o _ ho _ => (h.block i (Array.getElem?_eq_some_iff.1 ho).1).trans ho⟩
theorem KeepC.blk {n₀ R : Nat} {A B : World} (h : KeepC n₀ R A B) {i : Nat} (hi : i ≠ R) {cs : Array Value} {t : TypeId} (ho : A.heap[i]? = some (.cells cs t (0, 0))) : B.heap[i]? = some (.cells cs t (0, 0)) := h.2 i _ hi ho rfl
/-- The parts' letters and numbers. -/
def letter : Nat → Int
  | 0 => 97
  | 1 => 98
  | 2 => 99
  | _ => 105
def num (a b c e : Int) : Nat → Int
  | 0 => a
  | 1 => b
  | 2 => c
  | _ => e
def uses (op : Int) (k : Nat) : Bool := decide (0 ≤ Lib.indexByte (shapeOf op).data.toList (letter k).toNat.toUInt8)
def partV (op a b c e : Int) (k : Nat) : Value := .agg #[.int .u8 (letter k), .int .i64 (num a b c e k), .bool (uses op k)]
theorem parts_calls (v : Array Value) (w : World) : Calls Tryz.prog 53 #[.agg v] w fun e w' => e = .returned (.func (.func 68) #[] #[.pointer (some ⟨w.heap.size, 0, none⟩)]) ∧ w' = w.alloc (.cells v 38) := by
  go_enter Tryz.func53, Tryz.ntmps53
  go_wp2
  go_ret
  exact ⟨rfl, rfl⟩
set_option maxRecDepth 100000 in
set_option maxHeartbeats 8000000 in
theorem parts1_in (n : Nat) (hn : 1 ≤ n) (l B R : Nat) (n₀ : Nat) (op a b c e : Int) (he : -2147483648 ≤ e ∧ e ≤ 2147483647) (J Jx : List Nat → World → Prop) (W : World) (hn0 : n₀ ≤ W.heap.size) (hJ : AbidesFrom W.heap.size J)
    (hY : ∀ pre (x : Nat) W1, J pre W1 → pre.length < 4 → YieldAt Fence.wide (n - 1) Tryz.prog l #[partV op a b c e x] W1 fun e W' =>
      (e = .returned (.bool true) ∧ J (pre ++ [x]) W' ∧ KeepC n₀ R W1 W') ∨ (e = .returned (.bool false) ∧ Jx (pre ++ [x]) W'))
    (hB : W.heap[B]? = some (.cells #[.int .i64 op, .int .i64 a, .int .i64 b, .int .i64 c, .int .i32 e] 38 (0, 0))) (hBR : B ≠ R) (hR : R < W.heap.size) (h0 : J [] W) :
    CallsIn Fence.wide n Tryz.prog 68 #[.func (.yield l) #[] #[], .pointer (some ⟨B, 0, none⟩)] W fun e W' => (∃ v, e = .returned v) ∧
      ((∃ ys, ys = List.range 4 ∧ J ys W') ∨ (∃ pre, pre <+: List.range 4 ∧ Jx pre W')) := by
  have hshape := fun n W => (callsIn_wide (n := n)).2 (inst_Shape.calls op (shapeOf op) W rfl)
  have hidx := fun n c W => (callsIn_wide (n := n)).2 (IndexByte_any (shapeOf op) c W)
  have hc0 := blk_cell hB 0
  have hc1 := blk_cell hB 1
  have hc2 := blk_cell hB 2
  have hc3 := blk_cell hB 3
  have hc4 := blk_cell hB 4
  simp only [List.getElem?_toArray, List.getElem?_cons_zero, List.getElem?_cons_succ] at hc0 hc1 hc2 hc3 hc4
  refine callsIn_of_wp Tryz.func68 rfl trivial ?_ rfl
  simp only [Tryz.ntmps68, List.size_toArray, List.length_cons, List.length_nil, Nat.reduceAdd, Nat.reduceSub, Array.replicate_succ, Array.replicate_zero, List.push_toArray, List.append_toArray, List.nil_append, List.cons_append]
  gi_wp2_with (refine ⟨trivial, ?_⟩; gi_at_call 31; refine (hshape _ _).mono ?_; rintro e_ w2 ⟨rfl, hb⟩; have hB2 := blk_below hB hb; have hd1 := blk_cell hB2 1; have hd2 := blk_cell hB2 2; have hd3 := blk_cell hB2 3; have hd4 := blk_cell hB2 4; simp only [List.getElem?_toArray, List.getElem?_cons_zero, List.getElem?_cons_succ] at hd1 hd2 hd3 hd4)
  obtain ⟨W2, hW2⟩ : ∃ W2, W2 = w2.alloc (.cells #[.int .i64 a, .int .i64 b, .int .i64 c, .int .i64 e] 3) := ⟨_, rfl⟩
  have hs2 := hb.size
  have hBel : Below W.heap.size W W2 := by rw [hW2]; exact below_alloc hb _
  have hSB : W2.heap[w2.heap.size]? = some (.cells #[.int .i64 a, .int .i64 b, .int .i64 c, .int .i64 e] 3 (0, 0)) := by rw [hW2]; exact blk_new w2 _
  have hsW2 : w2.heap.size < W2.heap.size := by rw [hW2]; simp
  rw [← hW2]
  have hJ0 : J [] W2 := hJ [] W W2 none h0 (grown_of_below hBel none) (fun r e => by cases e)
  have HSR : w2.heap.size ≠ R := by omega
  generalize w2.heap.size = SB at hSB hsW2 HSR
  clear hW2 hb hB2 hd1 hd2 hd3 hd4 hc0 hc1 hc2 hc3 hc4 hs2
  gi_loopw [21] (fun i wr => ∃ k : Nat, k ≤ 4 ∧ i = .int .i64 k ∧ J (List.range k) wr ∧ KeepC n₀ R W2 wr) (fun i _ => 4 - (intOf i).toNat)
  case atStart => exact ⟨0, Nat.zero_le _, rfl, hJ0, KeepC.refl _ _ _⟩
  case round =>
    obtain ⟨k, hk, rfl, hJs, hkb⟩ := hrel
    by_cases hlt : k < 4
    · have hx := hkb.blk HSR hSB
      have hy0 := hY (List.range k) k wr hJs (by simpa using hlt)
      have hx0 := blk_cell hx 0
      have hx1 := blk_cell hx 1
      have hx2 := blk_cell hx 2
      have hx3 := blk_cell hx 3
      simp only [List.getElem?_toArray, List.getElem?_cons_zero, List.getElem?_cons_succ] at hx0 hx1 hx2 hx3
      have hrs : List.range k ++ [k] = List.range (k + 1) := List.range_succ.symm
      rw [hrs] at hy0
      have hpre : List.range (k + 1) <+: List.range 4 := ⟨(List.range 4).drop (k + 1), by rcases k with _ | _ | _ | _ | k <;> first | rfl | omega⟩
      have HP := Lib.hid hpre
      have HKB := Lib.hid hkb
      clear hrs hpre hkb hx hJs
      unfold partV at hy0
      obtain rfl | rfl | rfl | rfl : k = 0 ∨ k = 1 ∨ k = 2 ∨ k = 3 := by omega
      · have hik := fun n W => hidx n 97 W
        have hl_ : ((⟨#[97, 98, 99, 105]⟩ : ByteArray)[0]'(by decide)).toNat = 97 := rfl
        unfold uses at hy0
        simp only [letter, num] at hy0
        generalize Lib.indexByte (shapeOf op).data.toList (Int.toNat 97).toUInt8 = jj at hik hy0
        clear hidx
        obtain ⟨fn, tmps, assign, body, hy, hR⟩ := hy0
        gi_wp2_with (refine ⟨trivial, ?_⟩; gi_at_call 69; refine (hik _ _).mono ?_; rintro e_ w5 ⟨rfl, rfl⟩)
        refine hR.mono ?_
        rintro e_ W3 (⟨rfl, hJ3, hk3⟩ | ⟨rfl, hJx3⟩)
        · gi_wp2
          go_roundw
          case rel => exact ⟨1, by omega, by go_num, hJ3, HKB.out.trans hk3⟩
          case measure => simp [intOf]
        · gi_wp2
          refine bodyPost_ret (results_none rfl _ _ _) rfl ?_
          exact ⟨⟨_, rfl⟩, .inr ⟨_, HP.out, hJx3⟩⟩
      · have hik := fun n W => hidx n 98 W
        have hl_ : ((⟨#[97, 98, 99, 105]⟩ : ByteArray)[1]'(by decide)).toNat = 98 := rfl
        unfold uses at hy0
        simp only [letter, num] at hy0
        generalize Lib.indexByte (shapeOf op).data.toList (Int.toNat 98).toUInt8 = jj at hik hy0
        clear hidx
        obtain ⟨fn, tmps, assign, body, hy, hR⟩ := hy0
        gi_wp2_with (refine ⟨trivial, ?_⟩; gi_at_call 69; refine (hik _ _).mono ?_; rintro e_ w5 ⟨rfl, rfl⟩)
        refine hR.mono ?_
        rintro e_ W3 (⟨rfl, hJ3, hk3⟩ | ⟨rfl, hJx3⟩)
        · gi_wp2
          go_roundw
          case rel => exact ⟨2, by omega, by go_num, hJ3, HKB.out.trans hk3⟩
          case measure => simp [intOf]
        · gi_wp2
          refine bodyPost_ret (results_none rfl _ _ _) rfl ?_
          exact ⟨⟨_, rfl⟩, .inr ⟨_, HP.out, hJx3⟩⟩
      · have hik := fun n W => hidx n 99 W
        have hl_ : ((⟨#[97, 98, 99, 105]⟩ : ByteArray)[2]'(by decide)).toNat = 99 := rfl
        unfold uses at hy0
        simp only [letter, num] at hy0
        generalize Lib.indexByte (shapeOf op).data.toList (Int.toNat 99).toUInt8 = jj at hik hy0
        clear hidx
        obtain ⟨fn, tmps, assign, body, hy, hR⟩ := hy0
        gi_wp2_with (refine ⟨trivial, ?_⟩; gi_at_call 69; refine (hik _ _).mono ?_; rintro e_ w5 ⟨rfl, rfl⟩)
        refine hR.mono ?_
        rintro e_ W3 (⟨rfl, hJ3, hk3⟩ | ⟨rfl, hJx3⟩)
        · gi_wp2
          go_roundw
          case rel => exact ⟨3, by omega, by go_num, hJ3, HKB.out.trans hk3⟩
          case measure => simp [intOf]
        · gi_wp2
          refine bodyPost_ret (results_none rfl _ _ _) rfl ?_
          exact ⟨⟨_, rfl⟩, .inr ⟨_, HP.out, hJx3⟩⟩
      · have hik := fun n W => hidx n 105 W
        have hl_ : ((⟨#[97, 98, 99, 105]⟩ : ByteArray)[3]'(by decide)).toNat = 105 := rfl
        unfold uses at hy0
        simp only [letter, num] at hy0
        generalize Lib.indexByte (shapeOf op).data.toList (Int.toNat 105).toUInt8 = jj at hik hy0
        clear hidx
        obtain ⟨fn, tmps, assign, body, hy, hR⟩ := hy0
        gi_wp2_with (refine ⟨trivial, ?_⟩; gi_at_call 69; refine (hik _ _).mono ?_; rintro e_ w5 ⟨rfl, rfl⟩)
        refine hR.mono ?_
        rintro e_ W3 (⟨rfl, hJ3, hk3⟩ | ⟨rfl, hJx3⟩)
        · gi_wp2
          go_roundw
          case rel => exact ⟨4, by omega, by go_num, hJ3, HKB.out.trans hk3⟩
          case measure => simp [intOf]
        · gi_wp2
          refine bodyPost_ret (results_none rfl _ _ _) rfl ?_
          exact ⟨⟨_, rfl⟩, .inr ⟨_, HP.out, hJx3⟩⟩
    · obtain rfl : k = 4 := by omega
      gi_wp2
      go_end0
      exact ⟨⟨_, rfl⟩, .inl ⟨_, rfl, hJs⟩⟩
theorem parts_stops (n : Nat) (hn : 1 ≤ n) (B R n₀ : Nat) (op a b c e : Int) (he : -2147483648 ≤ e ∧ e ≤ 2147483647) (w : World) (hB : w.heap[B]? = some (.cells #[.int .i64 op, .int .i64 a, .int .i64 b, .int .i64 c, .int .i32 e] 38 (0, 0))) (hBR : B ≠ R) (hR : R < w.heap.size) (hn0 : n₀ ≤ w.heap.size) :
    SeqStopsK Fence.wide n Tryz.prog 68 #[.pointer (some ⟨B, 0, none⟩)] (fun x : Nat => #[partV op a b c e x]) (KeepC n₀ R) (fun ys => ys = List.range 4) (fun pre => pre <+: List.range 4) 4 w := fun l J Jx W hW hJ hJx hY h0 =>
  parts1_in n hn l B R n₀ op a b c e he J Jx W (Nat.le_trans hn0 hW.size) hJ hY (blk_below hB hW) hBR (Nat.lt_of_lt_of_le hR hW.size) h0
theorem blk_own {β : Type} (i : Nat) (cs : Array Value) (t : TypeId) : Own (fun (_ : β) W => W.heap[i]? = some (.cells cs t (0, 0))) := fun s X Y row hs hg hrow =>
  blk_grown hs hg (fun e => by obtain ⟨o, ho, hc⟩ := hrow i e.symm; rw [show X.heap[i]? = _ from hs] at ho; cases ho; cases hc)
end Go.Proofs.YtbelnkdbghggmaaGreatDoor.X
namespace Go.Proofs.YtbelnkdbghggmaaGreatDoor.X
open Go.RowKit Go.Shelf Go.Proofs.YtbelnkdbghggmaaGreatDoorW.PrintWords Go.Proofs.YtbelnkdbghggmaaGreatDoorW.PrintLast
attribute [local go_sem] Oper.semAt_some
set_option linter.unusedVariables false
set_option linter.unusedSimpArgs false
/-- A part that can't be. -/
def bad (op a b c e : Int) (k : Nat) : Bool := (!(uses op k) && (num a b c e k != 0)) || (letter k != 105 && (decide (num a b c e k < 0) || decide (num a b c e k ≥ 16)))
def fitP (op a b c e : Int) : Bool := (List.range 4).all (fun k => !(bad op a b c e k))
theorem blk_new1 (w : World) (o : Obj) (n : Nat) (hn : n = w.heap.size) : (w.alloc o).heap[n]? = some o := hn ▸ blk_new w o
set_option maxRecDepth 100000 in
set_option maxHeartbeats 8000000 in
theorem Fit_in (op a b c e : Int) (hop : 0 ≤ op ∧ op < 26) (he : -2147483648 ≤ e ∧ e ≤ 2147483647) (w : World) :
    Calls Tryz.prog 40 #[.agg #[.int .i64 op, .int .i64 a, .int .i64 b, .int .i64 c, .int .i32 e]] w fun e_ w' => e_ = .returned (.bool (fitP op a b c e)) ∧ Below w.heap.size w w' := by
  have hparts := fun n W => (callsIn_wide (n := n)).2 (parts_calls #[.int .i64 op, .int .i64 a, .int .i64 b, .int .i64 c, .int .i32 e] W)
  have hknown := fun n W => (callsIn_wide (n := n)).2 (inst_known.calls op true W (by unfold inst_known.f; rw [if_pos hop.1, decide_eq_true hop.2]))
  refine (callsIn_wide (n := 3)).1 ?_
  refine callsIn_of_wp_marks Tryz.func40 rfl trivial ?_ rfl
  simp only [Tryz.ntmps40, List.size_toArray, List.length_cons, List.length_nil, Nat.reduceAdd, Nat.reduceSub, Array.replicate_succ, Array.replicate_zero, List.push_toArray, List.append_toArray, List.nil_append, List.cons_append]
  clear hop
  gi_wp2_with (first | (refine ⟨trivial, ?_⟩; gi_at_call 57; refine (hknown _ _).mono ?_; rintro e_ w2 ⟨rfl, ⟨nd, rfl⟩⟩) | (refine ⟨trivial, ?_⟩; gi_at_call 53; refine (hparts _ _).mono ?_; rintro e_ w3 ⟨rfl, rfl⟩))
  obtain ⟨W3, hW3⟩ : ∃ W3, W3 = (((w.alloc (.cells #[.int .i64 op, .int .i64 a, .int .i64 b, .int .i64 c, .int .i32 e] 38)).alloc (.cells #[.bool false] 4)).drewN nd).alloc (.cells #[.int .i64 op, .int .i64 a, .int .i64 b, .int .i64 c, .int .i32 e] 38) := ⟨_, rfl⟩
  rw [← hW3]
  have hsz : W3.heap.size = w.heap.size + 3 := by rw [hW3]; simp
  have hB : Below w.heap.size w W3 := by rw [hW3]; exact below_alloc (pw_below_drewN (below_alloc (below_alloc (Below.refl _ w) _) _) _) _
  have hb1 : Boxed W3 (w.heap.size + 1) 4 (.bool false) := by rw [hW3]; exact blk_alloc (blk_drewN (blk_new1 _ _ _ (by simp)) _) _
  have hbB : W3.heap[w.heap.size + 1 + 1]? = some (.cells #[.int .i64 op, .int .i64 a, .int .i64 b, .int .i64 c, .int .i32 e] 38 (0, 0)) := by rw [hW3]; exact blk_new1 _ _ _ (by simp)
  have hseq := parts_stops 2 (by decide) (w.heap.size + 1 + 1) (w.heap.size + 1) w.heap.size op a b c e he W3 hbB (by omega) (by omega) (by omega)
  clear hW3 hparts hknown hbB
  refine wpIn_rangeFunc_ownH rfl (by decide) (gf := 68) (lb := #[.pointer (some ⟨w.heap.size + 1 + 1, 0, none⟩)]) rfl trivial (enters_of Tryz.func68 (by kernel_rfl) rfl) hseq (fun h k => KeepC.trans h k) (KeepC.putObj (by omega)) (Below.refl _ _) (fun _ => rfl)
    (fun pre W => ((∀ i ∈ pre, bad op a b c e i = false) ∧ Boxed W (w.heap.size + 1) 4 (.bool false) ∧ w.heap.size + 3 ≤ W.heap.size) ∧ Below w.heap.size w W)
    (fun cd pre W => (cd = .ret ∧ (∃ (q : List Nat) (z : Nat), pre = q ++ [z] ∧ bad op a b c e z = true) ∧ Boxed W (w.heap.size + 1) 4 (.bool false)) ∧ Below w.heap.size w W)
    (OwnFrom.and (Own.from (fun s X Y row hs hg hr => ⟨hs.1, boxed_own (β := Unit) _ _ (fun _ => _) () X Y row hs.2.1 hg hr, Nat.le_trans hs.2.2 hg.size⟩) _) (ownFrom_below (Nat.le_refl _) (by omega)))
    (fun cd => OwnFrom.and (Own.from (fun s X Y row hs hg hr => ⟨hs.1, hs.2.1, boxed_own (β := Unit) _ _ (fun _ => _) () X Y row hs.2.2 hg hr⟩) _) (ownFrom_below (Nat.le_refl _) (by omega)))
    ⟨⟨by simp, hb1, by omega⟩, hB⟩
    (fun x a' W => ∃ q : Nat, a' = { tmps := #[.agg #[.int .i64 op, .int .i64 a, .int .i64 b, .int .i64 c, .int .i32 e], .pointer (some ⟨w.heap.size, 0, none⟩), .pointer (some ⟨w.heap.size + 1, 0, none⟩), .pointer (some ⟨q, 0, none⟩), .pointer (some ⟨w.heap.size, 0, none⟩), .int .i64 op, .bool true, .bool false, .agg #[.int .i64 op, .int .i64 a, .int .i64 b, .int .i64 c, .int .i32 e], .func (.func 68) #[] #[.pointer (some ⟨w.heap.size + 1 + 1, 0, none⟩)], .agg #[.int .u8 (letter x), .int .i64 (num a b c e x), .bool (uses op x)], undef, undef, undef, undef, undef, undef, undef, undef, undef, undef, undef, undef, undef, undef, undef, undef, undef, undef, undef, undef, undef, undef, undef], defers := [] } ∧ W.heap[q]? = some (.cells #[.int .u8 (letter x), .int .i64 (num a b c e x), .bool (uses op x)] 103 (0, 0)) ∧ q ≠ w.heap.size + 1)
    (fun x a' => Own.from (fun s X Y row hs hg hr => (let ⟨q, h1, h2, h3⟩ := hs; ⟨q, h1, blk_own (β := Unit) q _ _ () X Y row h2 hg hr, h3⟩)) _) ?assign ?body ?done ?stop
  case assign =>
    intro l pre x W K hI hK
    obtain ⟨⟨hne, hv, hsW⟩, hBW⟩ := hI
    unfold partV
    gi_wp2
    exact hK _ _ (KeepsFrom.of_grownBy (World.grownBy_alloc W _ none) (fun j e => by cases e)) (KeepC.of_below (below_alloc (Below.refl _ _) _) (by omega)) ⟨⟨hne, hv.kept (World.grownBy_alloc W _ none) (by simp), by simp; omega⟩, below_alloc hBW _⟩ ⟨W.heap.size, rfl, blk_new W _, by omega⟩
  case body =>
    rintro lp pre x a' W hl hex ⟨⟨hne, hv, hsW⟩, hBW⟩ ⟨q, rfl, hq, hqn⟩ hlen
    have hq0 := blk_cell hq 0
    have hq1 := blk_cell hq 1
    have hq2 := blk_cell hq 2
    simp only [List.getElem?_toArray, List.getElem?_cons_zero, List.getElem?_cons_succ] at hq0 hq1 hq2
    have hc := hv.cell
    have hf := hv.frozen
    have hbad : bad op a b c e x = ((!(uses op x) && (num a b c e x != 0)) || (letter x != 105 && (decide (num a b c e x < 0) || decide (num a b c e x ≥ 16)))) := rfl
    clear hq hlen hex
    generalize uses op x = u at *
    generalize num a b c e x = nn at *
    generalize letter x = L at *
    have HBAD := Lib.hid hbad
    clear hbad
    have HV := Lib.hid hv
    have HBW := Lib.hid hBW
    have HNE := Lib.hid hne
    clear hne hv hBW
    cases u <;> by_cases h0 : nn = 0 <;> by_cases hL : L = 105 <;> by_cases h1 : nn < 0 <;> by_cases h2 : nn ≥ 16
    all_goals first | (exfalso; omega) | skip
    all_goals
      gi_wp2
      first
      | (refine ⟨KeepsFrom.refl _ _, KeepC.refl _ _ _, ⟨fun i hi => ?_, HV.out, hsW⟩, HBW.out⟩; rcases List.mem_append.1 hi with hi | hi; exact HNE.out i hi; simp only [List.mem_singleton] at hi; subst hi; rw [HBAD.out]; simp [h0, hL, h1, h2]; done)
      | (refine ⟨(KeepsOthers.setCell _ _ _).from _, ⟨rfl, ⟨pre, x, rfl, ?_⟩, HV.out.set _⟩, HBW.out.setCell (p := ⟨w.heap.size + 1, 0, none⟩) (by simp) _⟩; rw [HBAD.out]; simp [h0, hL, h1, h2]; done)
      | (refine ⟨(KeepsOthers.setCell _ _ _).from _, ⟨rfl, ⟨pre, x, rfl, ?_⟩, HV.out.set _⟩, HBW.out.setCell (p := ⟨w.heap.size + 1, 0, none⟩) (by simp) _⟩; rw [HBAD.out]; simp [h0, hL, h1, h2]; omega)
  case done =>
    rintro D ys W hD hS ⟨⟨hne, hv, hsW⟩, hBW⟩ hK
    have hS' : ys = List.range 4 := hS
    subst hS'
    have hfin : fitP op a b c e = true := by
      unfold fitP
      rw [List.all_eq_true]
      intro k hk
      rw [hne k hk]
      rfl
    have hc := hv.cell
    have hf := hv.frozen
    gi_wp2
    have hw := hv.set (.bool true)
    have hK' := (KeepsOthers.setCell W ⟨w.heap.size + 1, 0, none⟩ (.bool true)).same D _ hK rfl
    have hB' := hBW.setCell (p := ⟨w.heap.size + 1, 0, none⟩) (by simp) (.bool true)
    refine ⟨by simp, .inl ⟨_, _, rfl, run_takeDeferred hK', ?_⟩⟩
    have hc5 := cell_kept hw.cell (grownBy_putObj' _ D (.deferred none)) (fun r e => by cases e; exact ⟨_, hK', rfl⟩)
    refine ⟨.bool true, ?_, by first | rfl | rw [hfin], hB'.trans (belowK_b (w := w) (Nat.le_refl _) _ D _ _ (by omega) hK' rfl rfl)⟩
    simp [results, Tryz.f40, go_sem, hc5]
  case stop =>
    rintro D cd pre W hD hpre ⟨⟨rfl, ⟨q, z, hqz, hbz⟩, hv⟩, hBW⟩ hK
    have hpre' : pre <+: List.range 4 := hpre
    obtain ⟨t, ht⟩ := hpre'
    have hfin : fitP op a b c e = false := by
      unfold fitP
      rw [List.all_eq_false]
      exact ⟨z, by rw [← ht, hqz]; simp, by rw [hbz]; decide⟩
    clear hpre
    gi_wp2
    refine ⟨by simp, .inl ⟨_, _, rfl, run_takeDeferred hK, ?_⟩⟩
    have hc5 := cell_kept hv.cell (grownBy_putObj' _ D (.deferred none)) (fun r e => by cases e; exact ⟨_, hK, rfl⟩)
    refine ⟨.bool false, ?_, by first | rfl | rw [hfin], hBW.trans (belowK_b (w := w) (Nat.le_refl _) W D _ _ (by omega) hK rfl rfl)⟩
    simp [results, Tryz.f40, go_sem, hc5]
end Go.Proofs.YtbelnkdbghggmaaGreatDoor.X
namespace Go.Proofs.YtbelnkdbghggmaaGreatDoor.X
open Go.RowKit Go.Proofs.YtbelnkdbghggmaaGreatDoorW.PrintWords Go.Proofs.YtbelnkdbghggmaaGreatDoorW.PrintLast
set_option linter.unusedVariables false
set_option linter.unusedSimpArgs false
set_option maxRecDepth 100000 in
set_option maxHeartbeats 8000000 in
theorem Fit_out (op a b c e : Int) (hop : ¬ (0 ≤ op ∧ op < 26)) (w : World) :
    Calls Tryz.prog 40 #[.agg #[.int .i64 op, .int .i64 a, .int .i64 b, .int .i64 c, .int .i32 e]] w fun e_ w' => e_ = .returned (.bool false) ∧ Below w.heap.size w w' := by
  have HK := Aside0.mk (show inst_known.f op = some false by
    unfold inst_known.f
    by_cases h0 : op ≥ 0
    · rw [if_pos h0, decide_eq_false (by omega)]
    · rw [if_neg h0])
  have HB := Aside0.mk (below_alloc (below_alloc (Below.refl w.heap.size w) (.cells #[.int .i64 op, .int .i64 a, .int .i64 b, .int .i64 c, .int .i32 e] 38)) (.cells #[.bool false] 4))
  clear hop
  go_enter Tryz.func40, Tryz.ntmps40
  go_wp2_with (go_at_call 57; (with_reducible refine (inst_known.calls op false _ HK.out).mono ?_); rintro e_ w1 ⟨rfl, ⟨nd, rfl⟩⟩)
  have hbx := blk_drewN (blk_new (w.alloc (.cells #[.int .i64 op, .int .i64 a, .int .i64 b, .int .i64 c, .int .i32 e] 38)) (.cells #[.bool false] 4)) nd
  rw [World.size_alloc] at hbx
  have hbx2 := blk_put hbx 0 (.bool false) rfl
  have hc5 := blk_cell hbx2 0
  simp at hc5
  refine bodyPost_ret (v := .bool false) (by simp [results, Tryz.f40, go_sem, hc5]) rfl ?_
  exact ⟨rfl, (pw_below_drewN HB.out nd).setCell (p := ⟨w.heap.size + 1, 0, none⟩) (by simp) _⟩
/-- Whether an instruction can be. -/
def fitB (op a b c e : Int) : Bool := decide (0 ≤ op ∧ op < 26) && fitP op a b c e
def inst_Fit.f (a0_0 a0_1 a0_2 a0_3 a0_4 : Int) : Option Bool := if -2147483648 ≤ a0_4 ∧ a0_4 ≤ 2147483647 then some (fitB a0_0 a0_1 a0_2 a0_3 a0_4) else none
theorem inst_Fit.calls (a0_0 : Int) (a0_1 : Int) (a0_2 : Int) (a0_3 : Int) (a0_4 : Int) (r : Bool) (w : World) (h : inst_Fit.f a0_0 a0_1 a0_2 a0_3 a0_4 = some r) :
    Calls Tryz.prog 40 #[.agg #[.int .i64 a0_0, .int .i64 a0_1, .int .i64 a0_2, .int .i64 a0_3, .int .i32 a0_4]] w fun e w' => e = .returned (.bool r) ∧ Below w.heap.size w w' := by
  unfold inst_Fit.f at h
  split at h
  · rename_i he
    obtain rfl := Option.some.inj h
    unfold fitB
    by_cases hop : 0 ≤ a0_0 ∧ a0_0 < 26
    · rw [decide_eq_true hop, Bool.true_and]
      exact Fit_in _ _ _ _ _ hop he w
    · rw [decide_eq_false hop, Bool.false_and]
      exact Fit_out _ _ _ _ _ hop w
  · cases h
end Go.Proofs.YtbelnkdbghggmaaGreatDoor.X
namespace Go.Proofs.YtbelnkdbghggmaaGreatDoor.X
open Go.RowKit Go.Proofs.YtbelnkdbghggmaaGreatDoorW.PrintWords Go.Proofs.YtbelnkdbghggmaaGreatDoorW.PrintLast

set_option linter.unusedVariables false
set_option linter.unusedSimpArgs false

-- NOT PRINTED: function 53 (inst_parts)

/-! ### inst_Encode: function 50 -/
def inst_Encode.f (a0_0 : Int) (a0_1 : Int) (a0_2 : Int) (a0_3 : Int) (a0_4 : Int) : Option (Int) := (inst_Fit.f a0_0 a0_1 a0_2 a0_3 a0_4).bind fun t102 => (if t102 = true then (some (Go.bits .or .u64 (Go.bits .or .u64 (IntKind.u64.wrap (a0_0)) (IntKind.u64.wrap ((Go.bits .or .u64 (Go.bits .or .u64 (IntKind.u64.wrap (a0_1)) (IntKind.u64.wrap ((IntKind.u64.wrap (a0_2)) * 16))) (IntKind.u64.wrap ((IntKind.u64.wrap (a0_3)) * 256))) * 256))) (((a0_4) % 4294967296) * 4294967296))) else (some 0))
set_option maxHeartbeats 8000000 in
set_option maxRecDepth 100000 in
theorem inst_Encode.calls (a0_0 : Int) (a0_1 : Int) (a0_2 : Int) (a0_3 : Int) (a0_4 : Int) (r : Int) (w : World) (h : inst_Encode.f a0_0 a0_1 a0_2 a0_3 a0_4 = some r) :
    Calls Tryz.prog 50 #[.agg #[.int .i64 a0_0, .int .i64 a0_1, .int .i64 a0_2, .int .i64 a0_3, .int .i32 a0_4]] w fun e w' => e = .returned (.int .u64 r) ∧ Below w.heap.size w w' := by
  have hu23 := Tryz.underlying38
  have HB := Aside0.mk (Below.refl w.heap.size w)
  have H : ((inst_Fit.f a0_0 a0_1 a0_2 a0_3 a0_4).bind fun t102 => (if t102 = true then (some (Go.bits .or .u64 (Go.bits .or .u64 (IntKind.u64.wrap (a0_0)) (IntKind.u64.wrap ((Go.bits .or .u64 (Go.bits .or .u64 (IntKind.u64.wrap (a0_1)) (IntKind.u64.wrap ((IntKind.u64.wrap (a0_2)) * 16))) (IntKind.u64.wrap ((IntKind.u64.wrap (a0_3)) * 256))) * 256))) (((a0_4) % 4294967296) * 4294967296))) else (some 0))) = some r := h
  clear h
  replace H := Option.bind_eq_some_iff.mp H
  obtain ⟨t102, A20, H⟩ := H
  replace H : (if t102 = true then (some (Go.bits .or .u64 (Go.bits .or .u64 (IntKind.u64.wrap (a0_0)) (IntKind.u64.wrap ((Go.bits .or .u64 (Go.bits .or .u64 (IntKind.u64.wrap (a0_1)) (IntKind.u64.wrap ((IntKind.u64.wrap (a0_2)) * 16))) (IntKind.u64.wrap ((IntKind.u64.wrap (a0_3)) * 256))) * 256))) (((a0_4) % 4294967296) * 4294967296))) else (some 0)) = some r := H
  have A2 := Aside0.mk A20
  clear A20
  by_cases c3 : t102 = true
  · subst c3
    have H1 : (some (Go.bits .or .u64 (Go.bits .or .u64 (IntKind.u64.wrap (a0_0)) (IntKind.u64.wrap ((Go.bits .or .u64 (Go.bits .or .u64 (IntKind.u64.wrap (a0_1)) (IntKind.u64.wrap ((IntKind.u64.wrap (a0_2)) * 16))) (IntKind.u64.wrap ((IntKind.u64.wrap (a0_3)) * 256))) * 256))) (((a0_4) % 4294967296) * 4294967296))) = some r := by rw [if_pos rfl] at H; exact H
    clear H
    have H := H1
    clear H1
    obtain rfl := Option.some.inj H
    go_enter Tryz.func50, Tryz.ntmps50
    go_wp2_with (first | ((with_reducible refine gate_dst (N := 1) rfl ?_); refine box_event ?hg (N := 1) ?hd (cs := #[.int .i64 a0_0, .int .i64 a0_1, .int .i64 a0_2, .int .i64 a0_3, .int .i32 a0_4]) (t := 38) ?hr ?_; (case hd => rfl); (case hg => rfl); (case hr => first | (go_simp; done) | (go_simp; rfl)); intro gb101 hg w4 hbox hb; have n0_ := Aside0.mk (below_step (by repeat (first | (with_reducible first | exact HB.out | apply below_alloc | apply pw_below_drewN | apply below_drew1) | exact HB.out)) hb); have n1_ := Aside0.mk (hbox); have n2_ := Aside0.mk ((by rw [hg]; exact (below_size (by repeat (first | (with_reducible first | exact HB.out | apply below_alloc | apply pw_below_drewN | apply below_drew1) | exact HB.out))) : w.heap.size ≤ gb101)); have n3_ := Aside0.mk ((by rw [hg]; exact (below_size (by repeat (first | (with_reducible first | exact HB.out | apply below_alloc | apply pw_below_drewN | apply below_drew1) | exact HB.out))) : w.heap.size ≤ gb101)); clear HB; have HB := n0_; have BK101 := n1_; have GW101 := n2_; have GE101 := n3_; clear n0_ n1_ n2_ n3_; clear hb hbox hg; have hcz5_0 : w4.cell? ⟨gb101, 0, none⟩ = some (.int .i64 a0_0) := (blk_cell BK101.out 0).trans rfl; have hcz5_1 : w4.cell? ⟨gb101, 1, none⟩ = some (.int .i64 a0_1) := (blk_cell BK101.out 1).trans rfl; have hcz5_2 : w4.cell? ⟨gb101, 2, none⟩ = some (.int .i64 a0_2) := (blk_cell BK101.out 2).trans rfl; have hcz5_3 : w4.cell? ⟨gb101, 3, none⟩ = some (.int .i64 a0_3) := (blk_cell BK101.out 3).trans rfl; have hcz5_4 : w4.cell? ⟨gb101, 4, none⟩ = some (.int .i32 a0_4) := (blk_cell BK101.out 4).trans rfl; have hfz5_0 := blk_frozen BK101.out 0; have hfz5_1 := blk_frozen BK101.out 1; have hfz5_2 := blk_frozen BK101.out 2; have hfz5_3 := blk_frozen BK101.out 3; have hfz5_4 := blk_frozen BK101.out 4) | ((with_reducible refine gate_callee (f := 40) rfl ?_); refine goesL_ (some 5) rfl rfl Tryz.func40 (by kernel_rfl) rfl #[.agg #[.int .i64 a0_0, .int .i64 a0_1, .int .i64 a0_2, .int .i64 a0_3, .int .i32 a0_4]] rfl (by (try simp only [List.map_toArray, List.map_cons, List.map_nil]); first | done | rfl | (simp only [List.length_drop, List.length_take]; rfl)) ?_; (with_reducible refine (inst_Fit.calls a0_0 a0_1 a0_2 a0_3 a0_4 true _ A2.out).mono ?_); rintro e w6 ⟨rfl, hb⟩; refine ⟨_, rfl, ?_⟩; have n0_ := Aside0.mk (blk_below (g := gb101) (o := .cells #[.int .i64 a0_0, .int .i64 a0_1, .int .i64 a0_2, .int .i64 a0_3, .int .i32 a0_4] 38 (0, 0)) (by (with_reducible repeat (first | refine blk_drewN ?_ _ | refine blk_drew ?_ | refine blk_alloc ?_ _)); exact BK101.out) hb); have n1_ := Aside0.mk (below_step (by repeat (first | (with_reducible first | exact HB.out | apply below_alloc | apply pw_below_drewN | apply below_drew1 | refine below_set ?_ GE101.out) | exact HB.out)) hb); clear BK101; clear HB; have BK101 := n0_; have HB := n1_; clear n0_ n1_; (try clear hb); (try clear hb2); (try clear hk); (try clear hi); have hcz7_0 : w6.cell? ⟨gb101, 0, none⟩ = some (.int .i64 a0_0) := (blk_cell BK101.out 0).trans rfl; have hcz7_1 : w6.cell? ⟨gb101, 1, none⟩ = some (.int .i64 a0_1) := (blk_cell BK101.out 1).trans rfl; have hcz7_2 : w6.cell? ⟨gb101, 2, none⟩ = some (.int .i64 a0_2) := (blk_cell BK101.out 2).trans rfl; have hcz7_3 : w6.cell? ⟨gb101, 3, none⟩ = some (.int .i64 a0_3) := (blk_cell BK101.out 3).trans rfl; have hcz7_4 : w6.cell? ⟨gb101, 4, none⟩ = some (.int .i32 a0_4) := (blk_cell BK101.out 4).trans rfl; have hfz7_0 := blk_frozen BK101.out 0; have hfz7_1 := blk_frozen BK101.out 1; have hfz7_2 := blk_frozen BK101.out 2; have hfz7_3 := blk_frozen BK101.out 3; have hfz7_4 := blk_frozen BK101.out 4))
    go_ret
    exact ⟨by first | rfl | (simp [errW_none, errW_some] <;> rfl) | (simp [*, errW_none, errW_some] <;> rfl), by repeat (first | (with_reducible first | exact HB.out | apply below_alloc | apply pw_below_drewN | apply below_drew1 | refine below_set ?_ GE101.out) | exact HB.out)⟩
  · replace c3 := Bool.eq_false_iff.mpr c3
    subst c3
    have H1 : (some 0) = some r := by rw [if_neg (show ¬ (false = true) by decide)] at H; exact H
    clear H
    have H := H1
    clear H1
    obtain rfl := Option.some.inj H
    go_enter Tryz.func50, Tryz.ntmps50
    go_wp2_with (first | ((with_reducible refine gate_dst (N := 1) rfl ?_); refine box_event ?hg (N := 1) ?hd (cs := #[.int .i64 a0_0, .int .i64 a0_1, .int .i64 a0_2, .int .i64 a0_3, .int .i32 a0_4]) (t := 38) ?hr ?_; (case hd => rfl); (case hg => rfl); (case hr => first | (go_simp; done) | (go_simp; rfl)); intro gb101 hg w8 hbox hb; have n0_ := Aside0.mk (below_step (by repeat (first | (with_reducible first | exact HB.out | apply below_alloc | apply pw_below_drewN | apply below_drew1) | exact HB.out)) hb); have n1_ := Aside0.mk (hbox); have n2_ := Aside0.mk ((by rw [hg]; exact (below_size (by repeat (first | (with_reducible first | exact HB.out | apply below_alloc | apply pw_below_drewN | apply below_drew1) | exact HB.out))) : w.heap.size ≤ gb101)); have n3_ := Aside0.mk ((by rw [hg]; exact (below_size (by repeat (first | (with_reducible first | exact HB.out | apply below_alloc | apply pw_below_drewN | apply below_drew1) | exact HB.out))) : w.heap.size ≤ gb101)); clear HB; have HB := n0_; have BK101 := n1_; have GW101 := n2_; have GE101 := n3_; clear n0_ n1_ n2_ n3_; clear hb hbox hg; have hcz9_0 : w8.cell? ⟨gb101, 0, none⟩ = some (.int .i64 a0_0) := (blk_cell BK101.out 0).trans rfl; have hcz9_1 : w8.cell? ⟨gb101, 1, none⟩ = some (.int .i64 a0_1) := (blk_cell BK101.out 1).trans rfl; have hcz9_2 : w8.cell? ⟨gb101, 2, none⟩ = some (.int .i64 a0_2) := (blk_cell BK101.out 2).trans rfl; have hcz9_3 : w8.cell? ⟨gb101, 3, none⟩ = some (.int .i64 a0_3) := (blk_cell BK101.out 3).trans rfl; have hcz9_4 : w8.cell? ⟨gb101, 4, none⟩ = some (.int .i32 a0_4) := (blk_cell BK101.out 4).trans rfl; have hfz9_0 := blk_frozen BK101.out 0; have hfz9_1 := blk_frozen BK101.out 1; have hfz9_2 := blk_frozen BK101.out 2; have hfz9_3 := blk_frozen BK101.out 3; have hfz9_4 := blk_frozen BK101.out 4) | ((with_reducible refine gate_callee (f := 40) rfl ?_); refine goesL_ (some 5) rfl rfl Tryz.func40 (by kernel_rfl) rfl #[.agg #[.int .i64 a0_0, .int .i64 a0_1, .int .i64 a0_2, .int .i64 a0_3, .int .i32 a0_4]] rfl (by (try simp only [List.map_toArray, List.map_cons, List.map_nil]); first | done | rfl | (simp only [List.length_drop, List.length_take]; rfl)) ?_; (with_reducible refine (inst_Fit.calls a0_0 a0_1 a0_2 a0_3 a0_4 false _ A2.out).mono ?_); rintro e w10 ⟨rfl, hb⟩; refine ⟨_, rfl, ?_⟩; have n0_ := Aside0.mk (blk_below (g := gb101) (o := .cells #[.int .i64 a0_0, .int .i64 a0_1, .int .i64 a0_2, .int .i64 a0_3, .int .i32 a0_4] 38 (0, 0)) (by (with_reducible repeat (first | refine blk_drewN ?_ _ | refine blk_drew ?_ | refine blk_alloc ?_ _)); exact BK101.out) hb); have n1_ := Aside0.mk (below_step (by repeat (first | (with_reducible first | exact HB.out | apply below_alloc | apply pw_below_drewN | apply below_drew1 | refine below_set ?_ GE101.out) | exact HB.out)) hb); clear BK101; clear HB; have BK101 := n0_; have HB := n1_; clear n0_ n1_; (try clear hb); (try clear hb2); (try clear hk); (try clear hi)))
    go_ret
    exact ⟨by first | rfl | (simp [errW_none, errW_some] <;> rfl) | (simp [*, errW_none, errW_some] <;> rfl), by repeat (first | (with_reducible first | exact HB.out | apply below_alloc | apply pw_below_drewN | apply below_drew1 | refine below_set ?_ GE101.out) | exact HB.out)⟩

-- NOT PRINTED: function 24 (inst_Decode)
end Go.Proofs.YtbelnkdbghggmaaGreatDoor.X
namespace Go.Proofs.YtbelnkdbghggmaaGreatDoor.X
open Go.RowKit Go.Proofs.YtbelnkdbghggmaaGreatDoorW.PrintWords Go.Proofs.YtbelnkdbghggmaaGreatDoorW.PrintLast
set_option linter.unusedVariables false
set_option linter.unusedSimpArgs false
set_option maxRecDepth 100000 in
set_option maxHeartbeats 8000000 in
theorem reg8 (B : Nat) (x : Int) (w : World) (hx : w.cell? ⟨B, 0, none⟩ = some (.int .u64 x)) :
    Calls Tryz.prog 51 #[.int .i64 8, .pointer (some ⟨B, 0, none⟩)] w fun e w' => e = .returned (.int .i64 (wrap64 (Go.bits .and .u64 (x / 256) 15))) ∧ w' = w := by
  go_enter Tryz.func51, Tryz.ntmps51
  go_wp2
  go_ret
  exact ⟨rfl, rfl⟩
set_option maxRecDepth 100000 in
set_option maxHeartbeats 8000000 in
theorem reg12 (B : Nat) (x : Int) (w : World) (hx : w.cell? ⟨B, 0, none⟩ = some (.int .u64 x)) :
    Calls Tryz.prog 51 #[.int .i64 12, .pointer (some ⟨B, 0, none⟩)] w fun e w' => e = .returned (.int .i64 (wrap64 (Go.bits .and .u64 (x / 4096) 15))) ∧ w' = w := by
  go_enter Tryz.func51, Tryz.ntmps51
  go_wp2
  go_ret
  exact ⟨rfl, rfl⟩
set_option maxRecDepth 100000 in
set_option maxHeartbeats 8000000 in
theorem reg16 (B : Nat) (x : Int) (w : World) (hx : w.cell? ⟨B, 0, none⟩ = some (.int .u64 x)) :
    Calls Tryz.prog 51 #[.int .i64 16, .pointer (some ⟨B, 0, none⟩)] w fun e w' => e = .returned (.int .i64 (wrap64 (Go.bits .and .u64 (x / 65536) 15))) ∧ w' = w := by
  go_enter Tryz.func51, Tryz.ntmps51
  go_wp2
  go_ret
  exact ⟨rfl, rfl⟩
/-- The instruction that a word's parts are. -/
def decOp (x : Int) : Int := IntKind.i64.wrap (Go.bits .and .u64 x 255)
def decA (x : Int) : Int := wrap64 (Go.bits .and .u64 (x / 256) 15)
def decB (x : Int) : Int := wrap64 (Go.bits .and .u64 (x / 4096) 15)
def decC (x : Int) : Int := wrap64 (Go.bits .and .u64 (x / 65536) 15)
set_option maxRecDepth 100000 in
set_option maxHeartbeats 8000000 in
theorem Decode_walk (x : Int) (im : Int) (t : Bool) (ec : Int) (w : World) (him : IntKind.i32.wrap (x / 4294967296) = im) (hf : inst_Fit.f (decOp x) (decA x) (decB x) (decC x) im = some t) (hec : t = true → inst_Encode.f (decOp x) (decA x) (decB x) (decC x) im = some ec) :
    Calls Tryz.prog 24 #[.int .u64 x] w fun e w' => e = .returned (.tuple #[if t = true ∧ ec = x then .agg #[.int .i64 (decOp x), .int .i64 (decA x), .int .i64 (decB x), .int .i64 (decC x), .int .i32 im] else .agg #[.int .i64 0, .int .i64 0, .int .i64 0, .int .i64 0, .int .i32 0], .bool (decide (t = true ∧ ec = x))]) ∧ Below w.heap.size w w' := by
  generalize hrv : Ending.returned (Value.tuple #[if t = true ∧ ec = x then Value.agg #[.int .i64 (decOp x), .int .i64 (decA x), .int .i64 (decB x), .int .i64 (decC x), .int .i32 im] else Value.agg #[.int .i64 0, .int .i64 0, .int .i64 0, .int .i64 0, .int .i32 0], Value.bool (decide (t = true ∧ ec = x))]) = rv
  have HRV := Aside0.mk hrv
  clear hrv
  have HF := Aside0.mk hf
  have HEC := Aside0.mk hec
  have HB := Aside0.mk (below_alloc (below_alloc (Below.refl w.heap.size w) (.cells #[.int .u64 x] 63)) (.cells #[.int .i64 0, .int .i64 0, .int .i64 0, .int .i64 0, .int .i32 0] 38))
  have hu23 := Tryz.underlying38
  clear hf hec
  go_enter Tryz.func24, Tryz.ntmps24
  go_upto_region 2 with fail
  go_cut [5] (fun s5 wx => s5 = .pointer (some ⟨w.heap.size + 2, 0, none⟩) ∧ Below w.heap.size w wx ∧ wx.heap[w.heap.size]? = some (.cells #[.int .u64 x] 63 (0, 0)) ∧ wx.heap[w.heap.size + 1]? = some (.cells #[.int .i64 0, .int .i64 0, .int .i64 0, .int .i64 0, .int .i32 0] 38 (0, 0)) ∧ wx.heap[w.heap.size + 2]? = some (.cells #[.int .i64 (decOp x), .int .i64 (decA x), .int .i64 (decB x), .int .i64 (decC x), .int .i32 im] 38 (0, 0)))
  case first =>
    go_region_held3 (fun w' => w'.cell? ⟨w.heap.size, 0, none⟩ = some (.int .u64 x)) (simp [go_sem, World.cell?_alloc_past])
      (first | (go_at_call 51; first | ((with_reducible refine (reg8 w.heap.size x _ ?s1).mono ?_); (case s1 => simp [*]; done); rintro e_ w1 ⟨rfl, rfl⟩) | ((with_reducible refine (reg12 w.heap.size x _ ?s1).mono ?_); (case s1 => simp [*]; done); rintro e_ w1 ⟨rfl, rfl⟩) | ((with_reducible refine (reg16 w.heap.size x _ ?s1).mono ?_); (case s1 => simp [*]; done); rintro e_ w1 ⟨rfl, rfl⟩)))
    all_goals
      go_wp2_with fail
      go_meet
      refine ⟨rfl, by first | exact below_drew1 (below_alloc HB.out _) | (apply below_drew1; apply below_alloc; exact HB.out), ?_, ?_, ?_⟩
      · refine blk_drew (blk_alloc (blk_alloc ?_ _) _); refine blk_new1 _ _ _ ?_; rfl
      · refine blk_drew (blk_alloc ?_ _); refine blk_new1 _ _ _ ?_; simp
      · refine blk_drew ?_; refine blk_new1 _ _ _ ?_; simp
  case rest =>
    obtain ⟨rfl, hBx, hx0, hz0, hi0⟩ := hcut
    have hx1 := blk_cell hx0 0
    have hi1 := blk_cell hi0 0
    have hi2 := blk_cell hi0 1
    have hi3 := blk_cell hi0 2
    have hi4 := blk_cell hi0 3
    have hi5 := blk_cell hi0 4
    simp only [List.getElem?_toArray, List.getElem?_cons_zero, List.getElem?_cons_succ] at hx1 hi1 hi2 hi3 hi4 hi5
    clear HB
    cases t
    · go_wp2
      go_region_with (first | (go_at_call 40; (with_reducible refine (inst_Fit.calls _ _ _ _ _ false _ HF.out).mono ?_); rintro e_ w1 ⟨rfl, hb⟩))
      all_goals
        have hz0b := blk_below (by repeat (first | exact hz0 | apply blk_drew)) hb
        have hc0 := (blk_cell hz0b 0).trans rfl
        have hc1 := (blk_cell hz0b 1).trans rfl
        have hc2 := (blk_cell hz0b 2).trans rfl
        have hc3 := (blk_cell hz0b 3).trans rfl
        have hc4 := (blk_cell hz0b 4).trans rfl
        have hf0 := blk_frozen hz0b 0
        have hf1 := blk_frozen hz0b 1
        have hf2 := blk_frozen hz0b 2
        have hf3 := blk_frozen hz0b 3
        have hf4 := blk_frozen hz0b 4
        go_wp2
        have hsz := hBx.size
        have hz0d := blk_put (blk_put (blk_put (blk_put (blk_put (hz0b) 0 (.int .i64 0) rfl) 1 (.int .i64 0) rfl) 2 (.int .i64 0) rfl) 3 (.int .i64 0) rfl) 4 (.int .i32 0) rfl
        have hd0 := (blk_cell hz0d 0).trans rfl
        have hd1 := (blk_cell hz0d 1).trans rfl
        have hd2 := (blk_cell hz0d 2).trans rfl
        have hd3 := (blk_cell hz0d 3).trans rfl
        have hd4 := (blk_cell hz0d 4).trans rfl
        simp at hd0 hd1 hd2 hd3 hd4
        refine bodyPost_ret (v := .tuple #[.agg #[.int .i64 0, .int .i64 0, .int .i64 0, .int .i64 0, .int .i32 0], .bool false]) (by simp [results, Tryz.f24, go_sem, hd0, hd1, hd2, hd3, hd4]) rfl ?_
        refine ⟨HRV.out.symm.trans (by first | rfl | simp | (simp [hz0]; done)) |>.symm, ?_⟩
        repeat (refine below_set ?_ (by simp))
        exact below_step (by repeat (first | exact hBx | apply below_drew1)) hb
    · have HEC2 := Aside0.mk (HEC.out rfl)
      clear HEC
      go_wp2
      by_cases hecx : ec = x
      · subst hecx
        go_region_with (first | (go_at_call 40; (with_reducible refine (inst_Fit.calls _ _ _ _ _ true _ HF.out).mono ?_); rintro e_ w1 ⟨rfl, hb⟩; have hx0b := blk_below (by repeat (first | exact hx0 | apply blk_drew)) hb; have hz0a := blk_below (by repeat (first | exact hz0 | apply blk_drew)) hb; have hi0b := blk_below (by repeat (first | exact hi0 | apply blk_drew)) hb; have hx1b := blk_cell hx0b 0; have hi1b := blk_cell hi0b 0; have hi2b := blk_cell hi0b 1; have hi3b := blk_cell hi0b 2; have hi4b := blk_cell hi0b 3; have hi5b := blk_cell hi0b 4; simp only [List.getElem?_toArray, List.getElem?_cons_zero, List.getElem?_cons_succ] at hx1b hi1b hi2b hi3b hi4b hi5b) | (go_at_call 50; (with_reducible refine (inst_Encode.calls _ _ _ _ _ _ _ HEC2.out).mono ?_); rintro e_ w2 ⟨rfl, hb2⟩; have hx0c := blk_below (by repeat (first | exact hx0b | apply blk_drew)) hb2; have hi0c := blk_below (by repeat (first | exact hi0b | apply blk_drew)) hb2; have hz0b := blk_below (by repeat (first | exact hz0a | apply blk_drew)) hb2; have hx1c := blk_cell hx0c 0; have hi1c := blk_cell hi0c 0; have hi2c := blk_cell hi0c 1; have hi3c := blk_cell hi0c 2; have hi4c := blk_cell hi0c 3; have hi5c := blk_cell hi0c 4; simp only [List.getElem?_toArray, List.getElem?_cons_zero, List.getElem?_cons_succ] at hx1c hi1c hi2c hi3c hi4c hi5c))
        all_goals
          have hc0 := (blk_cell hz0b 0).trans rfl
          have hc1 := (blk_cell hz0b 1).trans rfl
          have hc2 := (blk_cell hz0b 2).trans rfl
          have hc3 := (blk_cell hz0b 3).trans rfl
          have hc4 := (blk_cell hz0b 4).trans rfl
          have hf0 := blk_frozen hz0b 0
          have hf1 := blk_frozen hz0b 1
          have hf2 := blk_frozen hz0b 2
          have hf3 := blk_frozen hz0b 3
          have hf4 := blk_frozen hz0b 4
          go_wp2
          have hsz := hBx.size
          have hz0d := blk_put (blk_put (blk_put (blk_put (blk_put (hz0b) 0 (.int .i64 (decOp ec)) rfl) 1 (.int .i64 (decA ec)) rfl) 2 (.int .i64 (decB ec)) rfl) 3 (.int .i64 (decC ec)) rfl) 4 (.int .i32 im) rfl
          have hd0 := (blk_cell hz0d 0).trans rfl
          have hd1 := (blk_cell hz0d 1).trans rfl
          have hd2 := (blk_cell hz0d 2).trans rfl
          have hd3 := (blk_cell hz0d 3).trans rfl
          have hd4 := (blk_cell hz0d 4).trans rfl
          simp at hd0 hd1 hd2 hd3 hd4
          refine bodyPost_ret (v := .tuple #[.agg #[.int .i64 (decOp ec), .int .i64 (decA ec), .int .i64 (decB ec), .int .i64 (decC ec), .int .i32 im], .bool true]) (by simp [results, Tryz.f24, go_sem, hd0, hd1, hd2, hd3, hd4]) rfl ?_
          refine ⟨by rw [← HRV.out]; simp, ?_⟩
          repeat (refine below_set ?_ (by simp))
          exact below_step (by repeat (first | exact below_step (by repeat (first | exact hBx | apply below_drew1)) hb | apply below_drew1)) hb2
      · have hdne : decide (ec = x) = false := decide_eq_false hecx
        go_region_with (first | (go_at_call 40; (with_reducible refine (inst_Fit.calls _ _ _ _ _ true _ HF.out).mono ?_); rintro e_ w1 ⟨rfl, hb⟩; have hx0b := blk_below (by repeat (first | exact hx0 | apply blk_drew)) hb; have hz0a := blk_below (by repeat (first | exact hz0 | apply blk_drew)) hb; have hi0b := blk_below (by repeat (first | exact hi0 | apply blk_drew)) hb; have hx1b := blk_cell hx0b 0; have hi1b := blk_cell hi0b 0; have hi2b := blk_cell hi0b 1; have hi3b := blk_cell hi0b 2; have hi4b := blk_cell hi0b 3; have hi5b := blk_cell hi0b 4; simp only [List.getElem?_toArray, List.getElem?_cons_zero, List.getElem?_cons_succ] at hx1b hi1b hi2b hi3b hi4b hi5b) | (go_at_call 50; (with_reducible refine (inst_Encode.calls _ _ _ _ _ _ _ HEC2.out).mono ?_); rintro e_ w2 ⟨rfl, hb2⟩; have hx0c := blk_below (by repeat (first | exact hx0b | apply blk_drew)) hb2; have hi0c := blk_below (by repeat (first | exact hi0b | apply blk_drew)) hb2; have hz0b := blk_below (by repeat (first | exact hz0a | apply blk_drew)) hb2; have hx1c := blk_cell hx0c 0; have hi1c := blk_cell hi0c 0; have hi2c := blk_cell hi0c 1; have hi3c := blk_cell hi0c 2; have hi4c := blk_cell hi0c 3; have hi5c := blk_cell hi0c 4; simp only [List.getElem?_toArray, List.getElem?_cons_zero, List.getElem?_cons_succ] at hx1c hi1c hi2c hi3c hi4c hi5c))
        all_goals
          have hc0 := (blk_cell hz0b 0).trans rfl
          have hc1 := (blk_cell hz0b 1).trans rfl
          have hc2 := (blk_cell hz0b 2).trans rfl
          have hc3 := (blk_cell hz0b 3).trans rfl
          have hc4 := (blk_cell hz0b 4).trans rfl
          have hf0 := blk_frozen hz0b 0
          have hf1 := blk_frozen hz0b 1
          have hf2 := blk_frozen hz0b 2
          have hf3 := blk_frozen hz0b 3
          have hf4 := blk_frozen hz0b 4
          go_wp2
          have hsz := hBx.size
          have hz0d := blk_put (blk_put (blk_put (blk_put (blk_put (hz0b) 0 (.int .i64 0) rfl) 1 (.int .i64 0) rfl) 2 (.int .i64 0) rfl) 3 (.int .i64 0) rfl) 4 (.int .i32 0) rfl
          have hd0 := (blk_cell hz0d 0).trans rfl
          have hd1 := (blk_cell hz0d 1).trans rfl
          have hd2 := (blk_cell hz0d 2).trans rfl
          have hd3 := (blk_cell hz0d 3).trans rfl
          have hd4 := (blk_cell hz0d 4).trans rfl
          simp at hd0 hd1 hd2 hd3 hd4
          refine bodyPost_ret (v := .tuple #[.agg #[.int .i64 0, .int .i64 0, .int .i64 0, .int .i64 0, .int .i32 0], .bool false]) (by simp [results, Tryz.f24, go_sem, hd0, hd1, hd2, hd3, hd4]) rfl ?_
          refine ⟨by rw [← HRV.out]; simp [hecx], ?_⟩
          repeat (refine below_set ?_ (by simp))
          exact below_step (by repeat (first | exact below_step (by repeat (first | exact hBx | apply below_drew1)) hb | apply below_drew1)) hb2
end Go.Proofs.YtbelnkdbghggmaaGreatDoor.X
namespace Go.Proofs.YtbelnkdbghggmaaGreatDoor.X
open Go.RowKit Go.Proofs.YtbelnkdbghggmaaGreatDoorW.PrintWords Go.Proofs.YtbelnkdbghggmaaGreatDoorW.PrintLast
def decI (x : Int) : Int := IntKind.i32.wrap (x / 4294967296)
def inst_Decode.f (a0 : Int) : Option (Int × Int × Int × Int × Int × Bool) := (inst_Fit.f (decOp a0) (decA a0) (decB a0) (decC a0) (decI a0)).bind fun t => if t = true then (inst_Encode.f (decOp a0) (decA a0) (decB a0) (decC a0) (decI a0)).bind fun e => if e = a0 then some (decOp a0, decA a0, decB a0, decC a0, decI a0, true) else some (0, 0, 0, 0, 0, false) else some (0, 0, 0, 0, 0, false)
theorem inst_Decode.calls (a0 : Int) (r1 : Int) (r2 : Int) (r3 : Int) (r4 : Int) (r5 : Int) (r6 : Bool) (w : World) (h : inst_Decode.f a0 = some (r1, r2, r3, r4, r5, r6)) :
    Calls Tryz.prog 24 #[.int .u64 a0] w fun e w' => e = .returned (.tuple #[.agg #[.int .i64 r1, .int .i64 r2, .int .i64 r3, .int .i64 r4, .int .i32 r5], .bool r6]) ∧ Below w.heap.size w w' := by
  unfold inst_Decode.f at h
  obtain ⟨t, ht, h⟩ := Option.bind_eq_some_iff.1 h
  cases t
  · rw [if_neg (by decide)] at h
    cases h
    exact Decode_walk a0 (decI a0) false 0 w rfl ht (fun k => by cases k)
  · rw [if_pos rfl] at h
    obtain ⟨e, he, h⟩ := Option.bind_eq_some_iff.1 h
    have hw := Decode_walk a0 (decI a0) true e w rfl ht (fun _ => he)
    by_cases hc : e = a0
    · rw [if_pos hc] at h
      cases h
      rw [if_pos ⟨rfl, hc⟩, decide_eq_true (And.intro rfl hc)] at hw
      exact hw
    · rw [if_neg hc] at h
      cases h
      rw [if_neg (fun k => hc k.2), decide_eq_false (fun k => hc k.2)] at hw
      exact hw
end Go.Proofs.YtbelnkdbghggmaaGreatDoor.X
namespace Go.Proofs
open Go.Shelf Go.RowKit Go.Sort Go.Lib
def Tryz.lays169_ren : Go.Shelf.Ren := ⟨fun | 169 => 20 | n => n, fun | 70 => 46 | 9 => 9 | 0 => 0 | 72 => 49 | 37 => 47 | 127 => 85 | 3 => 3 | 5 => 5 | n => n, fun | n => n⟩
theorem Tryz.lays169 : Go.Proofs.Lays.n169 Tryz.prog Tryz.lays169_ren := {
  mixed := by kernel_rfl
  f169 := Tryz.func20.trans (congrArg some (by kernel_rfl))
  t0 := Tryz.underlying0
  a0 := Tryz.isAgg0
  z0 := Tryz.sizeOf0
  v0 := Tryz.zeroValue0
  t3 := Tryz.underlying3
  a3 := Tryz.isAgg3
  z3 := Tryz.sizeOf3
  v3 := Tryz.zeroValue3
  t9 := Tryz.underlying9
  a9 := Tryz.isAgg9
  z9 := Tryz.sizeOf9
  v9 := Tryz.zeroValue9
  t37 := Tryz.underlying47
  a37 := Tryz.isAgg47
  z37 := Tryz.sizeOf47
  v37 := Tryz.zeroValue47
  t70 := Tryz.underlying46
  a70 := Tryz.isAgg46
  z70 := Tryz.sizeOf46
  v70 := Tryz.zeroValue46
  t72 := Tryz.underlying49
  a72 := Tryz.isAgg49
  z72 := Tryz.sizeOf49
  v72 := Tryz.zeroValue49
  t127 := Tryz.underlying85
  a127 := Tryz.isAgg85
  z127 := Tryz.sizeOf85
  v127 := Tryz.zeroValue85 }
theorem Tryz.Builder_Extra_169 : Builder.Extra Tryz.prog Tryz.lays169_ren := {
  sizeBuilder := by kernel_rfl
  liesBuilder := by kernel_rfl
  t5 := Tryz.underlying5
  a5 := Tryz.isAgg5
  z5 := Tryz.sizeOf5
  v5 := Tryz.zeroValue5
  infoByte := by kernel_rfl
  cellsByte := by kernel_rfl
  sizeByte := by kernel_rfl
  neB5 := by decide }
theorem Tryz.Builder_String_any (B b : Nat) (l : List UInt8) (w : World) (h : Lib.IsBuilder 49 5 B b (Lib.byteCells l) w) (hBw : B ≤ w.heap.size) :
    Calls Tryz.prog 20 #[.pointer (some ⟨b, 0, none⟩)] w fun e w' => e = .returned (.string ⟨l.toArray⟩) ∧ Below B w w' := Any.Builder_String_any Tryz.lays169 Tryz.Builder_Extra_169 B b l w h hBw
def Tryz.lays103_ren : Go.Shelf.Ren := ⟨fun | 103 => 78 | 210 => 86 | 206 => 93 | n => n, fun | 9 => 9 | 4 => 4 | 24 => 67 | 3 => 3 | n => n, fun | n => n⟩
theorem Tryz.lays103 : Go.Proofs.Lays.n103 Tryz.prog Tryz.lays103_ren := {
  mixed := by kernel_rfl
  f103 := Tryz.func78.trans (congrArg some (by kernel_rfl))
  f206 := Tryz.func93.trans (congrArg some (by kernel_rfl))
  f210 := Tryz.func86.trans (congrArg some (by kernel_rfl))
  t3 := Tryz.underlying3
  a3 := Tryz.isAgg3
  z3 := Tryz.sizeOf3
  v3 := Tryz.zeroValue3
  t4 := Tryz.underlying4
  a4 := Tryz.isAgg4
  z4 := Tryz.sizeOf4
  v4 := Tryz.zeroValue4
  t9 := Tryz.underlying9
  a9 := Tryz.isAgg9
  z9 := Tryz.sizeOf9
  v9 := Tryz.zeroValue9
  t24 := Tryz.underlying67
  a24 := Tryz.isAgg67
  z24 := Tryz.sizeOf67
  v24 := Tryz.zeroValue67 }
theorem Tryz.strings_CutPrefix (s p : ByteArray) (w : World) :
    Calls Tryz.prog 78 #[.string s, .string p] w fun e w' => e = .returned (.tuple #[.string ⟨(Lib.trimPrefix s.data.toList p.data.toList).toArray⟩, .bool (Lib.hasPrefix s.data.toList p.data.toList)]) ∧ w' = w := Any.strings_CutPrefix Tryz.lays103 s p w
def Tryz.lays104_ren : Go.Shelf.Ren := ⟨fun | 104 => 27 | 211 => 55 | 207 => 74 | n => n, fun | 9 => 9 | 4 => 4 | 24 => 67 | 3 => 3 | n => n, fun | n => n⟩
theorem Tryz.lays104 : Go.Proofs.Lays.n104 Tryz.prog Tryz.lays104_ren := {
  mixed := by kernel_rfl
  f104 := Tryz.func27.trans (congrArg some (by kernel_rfl))
  f207 := Tryz.func74.trans (congrArg some (by kernel_rfl))
  f211 := Tryz.func55.trans (congrArg some (by kernel_rfl))
  t3 := Tryz.underlying3
  a3 := Tryz.isAgg3
  z3 := Tryz.sizeOf3
  v3 := Tryz.zeroValue3
  t4 := Tryz.underlying4
  a4 := Tryz.isAgg4
  z4 := Tryz.sizeOf4
  v4 := Tryz.zeroValue4
  t9 := Tryz.underlying9
  a9 := Tryz.isAgg9
  z9 := Tryz.sizeOf9
  v9 := Tryz.zeroValue9
  t24 := Tryz.underlying67
  a24 := Tryz.isAgg67
  z24 := Tryz.sizeOf67
  v24 := Tryz.zeroValue67 }
theorem Tryz.strings_CutSuffix (s p : ByteArray) (w : World) (hs : s.size ≤ 9223372036854775807) :
    Calls Tryz.prog 27 #[.string s, .string p] w fun e w' => e = .returned (.tuple #[.string ⟨(Lib.trimSuffix s.data.toList p.data.toList).toArray⟩, .bool (Lib.hasSuffix s.data.toList p.data.toList)]) ∧ w' = w := Any.strings_CutSuffix Tryz.lays104 s p w hs
def Tryz.laysM171_ren : Go.Shelf.Ren := ⟨fun | 171 => 43 | 243 => 64 | 246 => 80 | 283 => 88 | 284 => 89 | 285 => 90 | 286 => 91 | 129 => 97 | 317 => 96 | 318 => 98 | 319 => 99 | 320 => 100 | 337 => 106 | 338 => 107 | n => n, fun | 3 => 3 | 9 => 9 | 2 => 2 | 4 => 4 | 171 => 126 | 0 => 0 | 53 => 63 | 37 => 47 | 5 => 5 | 173 => 129 | 212 => 133 | 51 => 113 | 20 => 20 | 213 => 134 | 46 => 94 | 232 => 152 | 233 => 153 | n => n, fun | 17 => 1 | 18 => 6 | 19 => 7 | n => n⟩
theorem Tryz.laysM171 : Go.Proofs.LaysM.n171 Tryz.prog Tryz.laysM171_ren := {
  mixed := by kernel_rfl
  f129 := Tryz.func97.trans (congrArg some (by kernel_rfl))
  f171 := Tryz.func43.trans (congrArg some (by kernel_rfl))
  f243 := Tryz.func64.trans (congrArg some (by kernel_rfl))
  f246 := Tryz.func80.trans (congrArg some (by kernel_rfl))
  f283 := Tryz.func88.trans (congrArg some (by kernel_rfl))
  f284 := Tryz.func89.trans (congrArg some (by kernel_rfl))
  f285 := Tryz.func90.trans (congrArg some (by kernel_rfl))
  f286 := Tryz.func91.trans (congrArg some (by kernel_rfl))
  f317 := Tryz.func96.trans (congrArg some (by kernel_rfl))
  f318 := Tryz.func98.trans (congrArg some (by kernel_rfl))
  f319 := Tryz.func99.trans (congrArg some (by kernel_rfl))
  f320 := Tryz.func100.trans (congrArg some (by kernel_rfl))
  f337 := Tryz.func106.trans (congrArg some (by kernel_rfl))
  f338 := Tryz.func107.trans (congrArg some (by kernel_rfl))
  t0 := Tryz.underlying0
  a0 := Tryz.isAgg0
  z0 := Tryz.sizeOf0
  v0 := Tryz.zeroValue0
  t2 := Tryz.underlying2
  a2 := Tryz.isAgg2
  z2 := Tryz.sizeOf2
  v2 := Tryz.zeroValue2
  t3 := Tryz.underlying3
  a3 := Tryz.isAgg3
  z3 := Tryz.sizeOf3
  v3 := Tryz.zeroValue3
  t4 := Tryz.underlying4
  a4 := Tryz.isAgg4
  z4 := Tryz.sizeOf4
  v4 := Tryz.zeroValue4
  t5 := Tryz.underlying5
  a5 := Tryz.isAgg5
  z5 := Tryz.sizeOf5
  v5 := Tryz.zeroValue5
  t9 := Tryz.underlying9
  a9 := Tryz.isAgg9
  z9 := Tryz.sizeOf9
  v9 := Tryz.zeroValue9
  t20 := Tryz.underlying20
  a20 := Tryz.isAgg20
  z20 := Tryz.sizeOf20
  v20 := Tryz.zeroValue20
  t37 := Tryz.underlying47
  a37 := Tryz.isAgg47
  z37 := Tryz.sizeOf47
  v37 := Tryz.zeroValue47
  t46 := Tryz.underlying94
  a46 := Tryz.isAgg94
  z46 := Tryz.sizeOf94
  v46 := Tryz.zeroValue94
  t51 := Tryz.underlying113
  a51 := Tryz.isAgg113
  z51 := Tryz.sizeOf113
  v51 := Tryz.zeroValue113
  t53 := Tryz.underlying63
  a53 := Tryz.isAgg63
  z53 := Tryz.sizeOf63
  v53 := Tryz.zeroValue63
  t171 := Tryz.underlying126
  a171 := Tryz.isAgg126
  z171 := Tryz.sizeOf126
  v171 := Tryz.zeroValue126
  t173 := Tryz.underlying129
  a173 := Tryz.isAgg129
  z173 := Tryz.sizeOf129
  v173 := Tryz.zeroValue129
  t212 := Tryz.underlying133
  a212 := Tryz.isAgg133
  z212 := Tryz.sizeOf133
  v212 := Tryz.zeroValue133
  t213 := Tryz.underlying134
  a213 := Tryz.isAgg134
  z213 := Tryz.sizeOf134
  t232 := Tryz.underlying152
  a232 := Tryz.isAgg152
  z232 := Tryz.sizeOf152
  v232 := Tryz.zeroValue152
  t233 := Tryz.underlying153
  a233 := Tryz.isAgg153
  z233 := Tryz.sizeOf153
  v233 := Tryz.zeroValue153
  g17 := by kernel_rfl
  g18 := by kernel_rfl
  g19 := by kernel_rfl
  i0 := by kernel_rfl
  i2 := by kernel_rfl
  i3 := by kernel_rfl
  i4 := by kernel_rfl
  i5 := by kernel_rfl
  i9 := by kernel_rfl
  i20 := by kernel_rfl
  i37 := by kernel_rfl
  i46 := by kernel_rfl
  i51 := by kernel_rfl
  i53 := by kernel_rfl
  i171 := by kernel_rfl
  i173 := by kernel_rfl
  i212 := by kernel_rfl
  i232 := by kernel_rfl
  i233 := by kernel_rfl
  m17 := by kernel_rfl
  m18 := by kernel_rfl
  m19 := by kernel_rfl }
theorem Tryz.strconv_Itoa (n : Int) (h0 : -9223372036854775808 ≤ n) (h1 : n ≤ 9223372036854775807) (w : World) (htab : Lib.TabIs Tryz.prog w "internal/strconv.uint64pow10" .u64 Lib.pow10Tab) :
    Calls Tryz.prog 43 #[.int .i64 n] w fun e w' => e = .returned (.string ⟨(Lib.itoa n).toArray⟩) ∧ ∃ k os, w' = grow (w.drewN k) os := Any.strconv_Itoa Tryz.laysM171 n h0 h1 w htab
def Tryz.laysC174_ren : Go.Shelf.Ren := ⟨fun | 174 => 87 | 247 => 94 | 245 => 95 | 287 => 101 | 279 => 102 | 280 => 103 | 281 => 104 | 282 => 105 | 321 => 108 | 322 => 109 | 316 => 110 | 171 => 43 | 205 => 111 | 243 => 64 | 246 => 80 | 283 => 88 | 284 => 89 | 285 => 90 | 286 => 91 | 129 => 97 | 317 => 96 | 318 => 98 | 319 => 99 | 320 => 100 | 337 => 106 | 338 => 107 | n => n, fun | 9 => 9 | 3 => 3 | 2 => 2 | 75 => 52 | 85 => 124 | 4 => 4 | 167 => 140 | 5 => 5 | 53 => 63 | 175 => 141 | 46 => 94 | 168 => 143 | 37 => 47 | 0 => 0 | 210 => 150 | 21 => 21 | 127 => 85 | 145 => 156 | 143 => 154 | 171 => 126 | 173 => 129 | 212 => 133 | 51 => 113 | 20 => 20 | 213 => 134 | 232 => 152 | 233 => 153 | 80 => 56 | n => n, fun | 15 => 4 | 16 => 5 | 17 => 1 | 18 => 6 | 19 => 7 | n => n⟩
theorem Tryz.laysC174 : Go.Proofs.LaysC.n174 Tryz.prog Tryz.laysC174_ren := {
  mixed := by kernel_rfl
  f129 := Tryz.func97.trans (congrArg some (by kernel_rfl))
  f171 := Tryz.func43.trans (congrArg some (by kernel_rfl))
  f174 := Tryz.func87.trans (congrArg some (by kernel_rfl))
  f205 := Tryz.func111.trans (congrArg some (by kernel_rfl))
  f243 := Tryz.func64.trans (congrArg some (by kernel_rfl))
  f245 := Tryz.func95.trans (congrArg some (by kernel_rfl))
  f246 := Tryz.func80.trans (congrArg some (by kernel_rfl))
  f247 := Tryz.func94.trans (congrArg some (by kernel_rfl))
  f279 := Tryz.func102.trans (congrArg some (by kernel_rfl))
  f280 := Tryz.func103.trans (congrArg some (by kernel_rfl))
  f281 := Tryz.func104.trans (congrArg some (by kernel_rfl))
  f282 := Tryz.func105.trans (congrArg some (by kernel_rfl))
  f283 := Tryz.func88.trans (congrArg some (by kernel_rfl))
  f284 := Tryz.func89.trans (congrArg some (by kernel_rfl))
  f285 := Tryz.func90.trans (congrArg some (by kernel_rfl))
  f286 := Tryz.func91.trans (congrArg some (by kernel_rfl))
  f287 := Tryz.func101.trans (congrArg some (by kernel_rfl))
  f316 := Tryz.func110.trans (congrArg some (by kernel_rfl))
  f317 := Tryz.func96.trans (congrArg some (by kernel_rfl))
  f318 := Tryz.func98.trans (congrArg some (by kernel_rfl))
  f319 := Tryz.func99.trans (congrArg some (by kernel_rfl))
  f320 := Tryz.func100.trans (congrArg some (by kernel_rfl))
  f321 := Tryz.func108.trans (congrArg some (by kernel_rfl))
  f322 := Tryz.func109.trans (congrArg some (by kernel_rfl))
  f337 := Tryz.func106.trans (congrArg some (by kernel_rfl))
  f338 := Tryz.func107.trans (congrArg some (by kernel_rfl))
  t0 := Tryz.underlying0
  a0 := Tryz.isAgg0
  z0 := Tryz.sizeOf0
  v0 := Tryz.zeroValue0
  t2 := Tryz.underlying2
  a2 := Tryz.isAgg2
  z2 := Tryz.sizeOf2
  v2 := Tryz.zeroValue2
  t3 := Tryz.underlying3
  a3 := Tryz.isAgg3
  z3 := Tryz.sizeOf3
  v3 := Tryz.zeroValue3
  t4 := Tryz.underlying4
  a4 := Tryz.isAgg4
  z4 := Tryz.sizeOf4
  v4 := Tryz.zeroValue4
  t5 := Tryz.underlying5
  a5 := Tryz.isAgg5
  z5 := Tryz.sizeOf5
  v5 := Tryz.zeroValue5
  t9 := Tryz.underlying9
  a9 := Tryz.isAgg9
  z9 := Tryz.sizeOf9
  v9 := Tryz.zeroValue9
  t20 := Tryz.underlying20
  a20 := Tryz.isAgg20
  z20 := Tryz.sizeOf20
  v20 := Tryz.zeroValue20
  t21 := Tryz.underlying21
  a21 := Tryz.isAgg21
  z21 := Tryz.sizeOf21
  v21 := Tryz.zeroValue21
  t37 := Tryz.underlying47
  a37 := Tryz.isAgg47
  z37 := Tryz.sizeOf47
  v37 := Tryz.zeroValue47
  t46 := Tryz.underlying94
  a46 := Tryz.isAgg94
  z46 := Tryz.sizeOf94
  v46 := Tryz.zeroValue94
  t51 := Tryz.underlying113
  a51 := Tryz.isAgg113
  z51 := Tryz.sizeOf113
  v51 := Tryz.zeroValue113
  t53 := Tryz.underlying63
  a53 := Tryz.isAgg63
  z53 := Tryz.sizeOf63
  v53 := Tryz.zeroValue63
  t75 := Tryz.underlying52
  a75 := Tryz.isAgg52
  z75 := Tryz.sizeOf52
  v75 := Tryz.zeroValue52
  t85 := Tryz.underlying124
  a85 := Tryz.isAgg124
  z85 := Tryz.sizeOf124
  v85 := Tryz.zeroValue124
  t127 := Tryz.underlying85
  a127 := Tryz.isAgg85
  z127 := Tryz.sizeOf85
  v127 := Tryz.zeroValue85
  t143 := Tryz.underlying154
  a143 := Tryz.isAgg154
  z143 := Tryz.sizeOf154
  v143 := Tryz.zeroValue154
  t145 := Tryz.underlying156
  a145 := Tryz.isAgg156
  z145 := Tryz.sizeOf156
  v145 := Tryz.zeroValue156
  t167 := Tryz.underlying140
  a167 := Tryz.isAgg140
  z167 := Tryz.sizeOf140
  v167 := Tryz.zeroValue140
  t168 := Tryz.underlying143
  a168 := Tryz.isAgg143
  z168 := Tryz.sizeOf143
  v168 := Tryz.zeroValue143
  t171 := Tryz.underlying126
  a171 := Tryz.isAgg126
  z171 := Tryz.sizeOf126
  v171 := Tryz.zeroValue126
  t173 := Tryz.underlying129
  a173 := Tryz.isAgg129
  z173 := Tryz.sizeOf129
  v173 := Tryz.zeroValue129
  t175 := Tryz.underlying141
  a175 := Tryz.isAgg141
  z175 := Tryz.sizeOf141
  v175 := Tryz.zeroValue141
  t210 := Tryz.underlying150
  a210 := Tryz.isAgg150
  z210 := Tryz.sizeOf150
  v210 := Tryz.zeroValue150
  t212 := Tryz.underlying133
  a212 := Tryz.isAgg133
  z212 := Tryz.sizeOf133
  v212 := Tryz.zeroValue133
  t213 := Tryz.underlying134
  a213 := Tryz.isAgg134
  z213 := Tryz.sizeOf134
  t232 := Tryz.underlying152
  a232 := Tryz.isAgg152
  z232 := Tryz.sizeOf152
  v232 := Tryz.zeroValue152
  t233 := Tryz.underlying153
  a233 := Tryz.isAgg153
  z233 := Tryz.sizeOf153
  v233 := Tryz.zeroValue153
  g15 := by kernel_rfl
  g16 := by kernel_rfl
  g17 := by kernel_rfl
  g18 := by kernel_rfl
  g19 := by kernel_rfl
  t80 := Tryz.underlying56
  a80 := Tryz.isAgg56
  z80 := Tryz.sizeOf56
  v80 := Tryz.zeroValue56
  i0 := by kernel_rfl
  i2 := by kernel_rfl
  i3 := by kernel_rfl
  i4 := by kernel_rfl
  i5 := by kernel_rfl
  i9 := by kernel_rfl
  i20 := by kernel_rfl
  i21 := by kernel_rfl
  i37 := by kernel_rfl
  i46 := by kernel_rfl
  i51 := by kernel_rfl
  i53 := by kernel_rfl
  i75 := by kernel_rfl
  i80 := by kernel_rfl
  i85 := by kernel_rfl
  i127 := by kernel_rfl
  i143 := by kernel_rfl
  i145 := by kernel_rfl
  i167 := by kernel_rfl
  i168 := by kernel_rfl
  i171 := by kernel_rfl
  i173 := by kernel_rfl
  i175 := by kernel_rfl
  i210 := by kernel_rfl
  i212 := by kernel_rfl
  i232 := by kernel_rfl
  i233 := by kernel_rfl
  m15 := by kernel_rfl
  m16 := by kernel_rfl
  m17 := by kernel_rfl
  m18 := by kernel_rfl
  m19 := by kernel_rfl
  c0 := by kernel_rfl
  c2 := by kernel_rfl
  c3 := by kernel_rfl
  c4 := by kernel_rfl
  c5 := by kernel_rfl
  c9 := by kernel_rfl
  c20 := by kernel_rfl
  c21 := by kernel_rfl
  c37 := by kernel_rfl
  c46 := by kernel_rfl
  c51 := by kernel_rfl
  c53 := by kernel_rfl
  c75 := by kernel_rfl
  c80 := by kernel_rfl
  c85 := by kernel_rfl
  c127 := by kernel_rfl
  c143 := by kernel_rfl
  c145 := by kernel_rfl
  c167 := by kernel_rfl
  c168 := by kernel_rfl
  c171 := by kernel_rfl
  c173 := by kernel_rfl
  c175 := by kernel_rfl
  c210 := by kernel_rfl
  c212 := by kernel_rfl
  c213 := by kernel_rfl
  c232 := by kernel_rfl
  c233 := by kernel_rfl }
theorem Tryz.strconv_ParseInt_10_at32_ok (s : ByteArray) (hmax : s.size ≤ 9223372036854775806) (v : Int) (h : Lib.parseIntB 32 s.data.toList = .ok v) (w : World) :
    Calls Tryz.prog 87 #[.string s, .int .i64 10, .int .i64 32] w fun e w' => e = .returned (.tuple #[.int .i64 v, .nilIface]) ∧ (w' = w ∨ ∃ t, w' = Lib.bytesWorld w 5 t) := Any.strconv_ParseInt_10_at32_ok Tryz.laysC174 s hmax v h w
theorem Tryz.strconv_ParseInt_10_at32_syntax_var (s : ByteArray) (hlim : s.size ≤ 281474976710656) (h : Lib.parseIntB 32 s.data.toList = .«syntax») (tp : TypeId) (p : Value) (w : World) (hvar : w.var? Tryz.prog "strconv.ErrSyntax" = some #[.iface tp p]) :
    Calls Tryz.prog 87 #[.string s, .int .i64 10, .int .i64 32] w fun e w' => ∃ N, e = .returned (.tuple #[.int .i64 (0), .iface 143 (.pointer (some ⟨N, 0, none⟩))]) ∧ w.heap.size ≤ N ∧ w'.heap[N]? = some (.cells #[.string ⟨#[80, 97, 114, 115, 101, 73, 110, 116]⟩, .string s, .iface tp p] 150 (0, 0)) ∧ Below w.heap.size w w' := Any.strconv_ParseInt_10_at32_syntax_var Tryz.laysC174 s hlim h tp p w hvar
theorem Tryz.strconv_ParseInt_10_at32_range_var (s : ByteArray) (hlim : s.size ≤ 281474976710656) (h : Lib.parseIntB 32 s.data.toList = .range) (tp : TypeId) (p : Value) (w : World) (hvar : w.var? Tryz.prog "strconv.ErrRange" = some #[.iface tp p]) :
    Calls Tryz.prog 87 #[.string s, .int .i64 10, .int .i64 32] w fun e w' => ∃ N, e = .returned (.tuple #[.int .i64 (Lib.intSat 32 s.data.toList), .iface 143 (.pointer (some ⟨N, 0, none⟩))]) ∧ w.heap.size ≤ N ∧ w'.heap[N]? = some (.cells #[.string ⟨#[80, 97, 114, 115, 101, 73, 110, 116]⟩, .string s, .iface tp p] 150 (0, 0)) ∧ Below w.heap.size w w' := Any.strconv_ParseInt_10_at32_range_var Tryz.laysC174 s hlim h tp p w hvar
def Tryz.lays145_ren : Go.Shelf.Ren := ⟨fun | 145 => 14 | 220 => 26 | 219 => 54 | 217 => 70 | 225 => 71 | 224 => 72 | 267 => 73 | 266 => 81 | 314 => 82 | n => n, fun | 9 => 9 | 4 => 4 | 59 => 42 | 3 => 3 | 5 => 5 | 46 => 94 | 146 => 120 | 51 => 113 | n => n, fun | 1 => 0 | n => n⟩
theorem Tryz.lays145 : Go.Proofs.Lays.n145 Tryz.prog Tryz.lays145_ren := {
  mixed := by kernel_rfl
  f145 := Tryz.func14.trans (congrArg some (by kernel_rfl))
  f217 := Tryz.func70.trans (congrArg some (by kernel_rfl))
  f219 := Tryz.func54.trans (congrArg some (by kernel_rfl))
  f220 := Tryz.func26.trans (congrArg some (by kernel_rfl))
  f224 := Tryz.func72.trans (congrArg some (by kernel_rfl))
  f225 := Tryz.func71.trans (congrArg some (by kernel_rfl))
  f266 := Tryz.func81.trans (congrArg some (by kernel_rfl))
  f267 := Tryz.func73.trans (congrArg some (by kernel_rfl))
  f314 := Tryz.func82.trans (congrArg some (by kernel_rfl))
  t3 := Tryz.underlying3
  a3 := Tryz.isAgg3
  z3 := Tryz.sizeOf3
  v3 := Tryz.zeroValue3
  t4 := Tryz.underlying4
  a4 := Tryz.isAgg4
  z4 := Tryz.sizeOf4
  v4 := Tryz.zeroValue4
  t5 := Tryz.underlying5
  a5 := Tryz.isAgg5
  z5 := Tryz.sizeOf5
  v5 := Tryz.zeroValue5
  t9 := Tryz.underlying9
  a9 := Tryz.isAgg9
  z9 := Tryz.sizeOf9
  v9 := Tryz.zeroValue9
  t46 := Tryz.underlying94
  a46 := Tryz.isAgg94
  z46 := Tryz.sizeOf94
  v46 := Tryz.zeroValue94
  t51 := Tryz.underlying113
  a51 := Tryz.isAgg113
  z51 := Tryz.sizeOf113
  v51 := Tryz.zeroValue113
  t59 := Tryz.underlying42
  a59 := Tryz.isAgg42
  z59 := Tryz.sizeOf42
  v59 := Tryz.zeroValue42
  t146 := Tryz.underlying120
  a146 := Tryz.isAgg120
  z146 := Tryz.sizeOf120
  v146 := Tryz.zeroValue120
  g1 := by kernel_rfl }
theorem Tryz.strings_Cut (s sep : ByteArray) (m : Int) (w : World) (hs : s.size < 4294967281) (hm : w.cell? ⟨0, 0, none⟩ = some (.int .i64 m)) :
    Calls Tryz.prog 14 #[.string s, .string sep] w fun e w' => e = .returned (.tuple #[.string ⟨(Lib.cut s.data.toList sep.data.toList).1.toArray⟩, .string ⟨(Lib.cut s.data.toList sep.data.toList).2.1.toArray⟩, .bool (Lib.cut s.data.toList sep.data.toList).2.2]) ∧ ∃ n, w' = w.drewN n := Any.strings_Cut Tryz.lays145 s sep m w hs hm
def Tryz.lays102_ren : Go.Shelf.Ren := ⟨fun | 102 => 44 | 209 => 65 | 207 => 74 | n => n, fun | 9 => 9 | 4 => 4 | 3 => 3 | n => n, fun | n => n⟩
theorem Tryz.lays102 : Go.Proofs.Lays.n102 Tryz.prog Tryz.lays102_ren := {
  mixed := by kernel_rfl
  f102 := Tryz.func44.trans (congrArg some (by kernel_rfl))
  f207 := Tryz.func74.trans (congrArg some (by kernel_rfl))
  f209 := Tryz.func65.trans (congrArg some (by kernel_rfl))
  t3 := Tryz.underlying3
  a3 := Tryz.isAgg3
  z3 := Tryz.sizeOf3
  v3 := Tryz.zeroValue3
  t4 := Tryz.underlying4
  a4 := Tryz.isAgg4
  z4 := Tryz.sizeOf4
  v4 := Tryz.zeroValue4
  t9 := Tryz.underlying9
  a9 := Tryz.isAgg9
  z9 := Tryz.sizeOf9
  v9 := Tryz.zeroValue9 }
theorem Tryz.strings_TrimSuffix (s p : ByteArray) (w : World) (hs : s.size ≤ 9223372036854775807) :
    Calls Tryz.prog 44 #[.string s, .string p] w fun e w' => e = .returned (.string ⟨(Lib.trimSuffix s.data.toList p.data.toList).toArray⟩) ∧ w' = w := Any.strings_TrimSuffix Tryz.lays102 s p w hs
def Tryz.lays146_ren : Go.Shelf.Ren := ⟨fun | 146 => 29 | 221 => 56 | 268 => 75 | 138 => 76 | 143 => 77 | 195 => 83 | 197 => 84 | 218 => 85 | 219 => 54 | 260 => 92 | 217 => 70 | 225 => 71 | 224 => 72 | 267 => 73 | 266 => 81 | 314 => 82 | n => n, fun | 9 => 9 | 31 => 69 | 3 => 3 | 4 => 4 | 0 => 0 | 105 => 122 | 21 => 21 | 5 => 5 | 46 => 94 | 119 => 136 | 139 => 139 | 138 => 138 | 146 => 120 | 51 => 113 | n => n, fun | 1 => 0 | 3 => 2 | 4 => 3 | n => n⟩
theorem Tryz.lays146 : Go.Proofs.Lays.n146 Tryz.prog Tryz.lays146_ren := {
  mixed := by kernel_rfl
  f138 := Tryz.func76.trans (congrArg some (by kernel_rfl))
  f143 := Tryz.func77.trans (congrArg some (by kernel_rfl))
  f146 := Tryz.func29.trans (congrArg some (by kernel_rfl))
  f195 := Tryz.func83.trans (congrArg some (by kernel_rfl))
  f197 := Tryz.func84.trans (congrArg some (by kernel_rfl))
  f217 := Tryz.func70.trans (congrArg some (by kernel_rfl))
  f218 := Tryz.func85.trans (congrArg some (by kernel_rfl))
  f219 := Tryz.func54.trans (congrArg some (by kernel_rfl))
  f221 := Tryz.func56.trans (congrArg some (by kernel_rfl))
  f224 := Tryz.func72.trans (congrArg some (by kernel_rfl))
  f225 := Tryz.func71.trans (congrArg some (by kernel_rfl))
  f260 := Tryz.func92.trans (congrArg some (by kernel_rfl))
  f266 := Tryz.func81.trans (congrArg some (by kernel_rfl))
  f267 := Tryz.func73.trans (congrArg some (by kernel_rfl))
  f268 := Tryz.func75.trans (congrArg some (by kernel_rfl))
  f314 := Tryz.func82.trans (congrArg some (by kernel_rfl))
  t0 := Tryz.underlying0
  a0 := Tryz.isAgg0
  z0 := Tryz.sizeOf0
  v0 := Tryz.zeroValue0
  t3 := Tryz.underlying3
  a3 := Tryz.isAgg3
  z3 := Tryz.sizeOf3
  v3 := Tryz.zeroValue3
  t4 := Tryz.underlying4
  a4 := Tryz.isAgg4
  z4 := Tryz.sizeOf4
  v4 := Tryz.zeroValue4
  t5 := Tryz.underlying5
  a5 := Tryz.isAgg5
  z5 := Tryz.sizeOf5
  v5 := Tryz.zeroValue5
  t9 := Tryz.underlying9
  a9 := Tryz.isAgg9
  z9 := Tryz.sizeOf9
  v9 := Tryz.zeroValue9
  t21 := Tryz.underlying21
  a21 := Tryz.isAgg21
  z21 := Tryz.sizeOf21
  v21 := Tryz.zeroValue21
  t31 := Tryz.underlying69
  a31 := Tryz.isAgg69
  z31 := Tryz.sizeOf69
  v31 := Tryz.zeroValue69
  t46 := Tryz.underlying94
  a46 := Tryz.isAgg94
  z46 := Tryz.sizeOf94
  v46 := Tryz.zeroValue94
  t51 := Tryz.underlying113
  a51 := Tryz.isAgg113
  z51 := Tryz.sizeOf113
  v51 := Tryz.zeroValue113
  t105 := Tryz.underlying122
  a105 := Tryz.isAgg122
  z105 := Tryz.sizeOf122
  v105 := Tryz.zeroValue122
  t119 := Tryz.underlying136
  a119 := Tryz.isAgg136
  z119 := Tryz.sizeOf136
  t138 := Tryz.underlying138
  a138 := Tryz.isAgg138
  z138 := Tryz.sizeOf138
  v138 := Tryz.zeroValue138
  t139 := Tryz.underlying139
  a139 := Tryz.isAgg139
  z139 := Tryz.sizeOf139
  v139 := Tryz.zeroValue139
  t146 := Tryz.underlying120
  a146 := Tryz.isAgg120
  z146 := Tryz.sizeOf120
  v146 := Tryz.zeroValue120
  g1 := by kernel_rfl
  g3 := by kernel_rfl
  g4 := by kernel_rfl }
theorem Tryz.strings_Split (s sep : ByteArray) (m : Int) (w : World) (hs : s.size < 4294967281) (hm : w.cell? ⟨0, 0, none⟩ = some (.int .i64 m)) (h1 : 1 ≤ sep.size) :
    Calls Tryz.prog 29 #[.string s, .string sep] w fun e w' =>
      e = .returned (.slice (some ⟨w.heap.size, 0, none⟩) (Lib.countB s sep + 1) (Lib.countB s sep + 1)) ∧ w' = w.alloc (.cells ((Lib.splitB sep 0 (Lib.countB s sep) s).map Value.string).toArray 9) := Any.strings_Split Tryz.lays146 (by kernel_rfl) s sep m w hs hm h1
def Tryz.lays166_ren : Go.Shelf.Ren := ⟨fun | 166 => 18 | 240 => 42 | 276 => 63 | n => n, fun | 31 => 49 | 9 => 9 | 3 => 3 | 4 => 4 | 0 => 0 | 20 => 20 | 70 => 46 | 72 => 49 | 37 => 47 | 5 => 5 | 164 => 109 | 75 => 52 | 80 => 56 | n => n, fun  | n => n⟩
theorem Tryz.lays166 : Lays.n166 Tryz.prog Tryz.lays166_ren := {
  mixed := by kernel_rfl
  f166 := Tryz.func18.trans (congrArg some (by kernel_rfl))
  f240 := Tryz.func42.trans (congrArg some (by kernel_rfl))
  f276 := Tryz.func63.trans (congrArg some (by kernel_rfl))
  t0 := Tryz.underlying0
  a0 := Tryz.isAgg0
  z0 := Tryz.sizeOf0
  v0 := Tryz.zeroValue0
  t3 := Tryz.underlying3
  a3 := Tryz.isAgg3
  z3 := Tryz.sizeOf3
  v3 := Tryz.zeroValue3
  t4 := Tryz.underlying4
  a4 := Tryz.isAgg4
  z4 := Tryz.sizeOf4
  v4 := Tryz.zeroValue4
  t9 := Tryz.underlying9
  a9 := Tryz.isAgg9
  z9 := Tryz.sizeOf9
  v9 := Tryz.zeroValue9
  t20 := Tryz.underlying20
  a20 := Tryz.isAgg20
  z20 := Tryz.sizeOf20
  v20 := Tryz.zeroValue20
  t37 := Tryz.underlying47
  a37 := Tryz.isAgg47
  z37 := Tryz.sizeOf47
  v37 := Tryz.zeroValue47
  t70 := Tryz.underlying46
  a70 := Tryz.isAgg46
  z70 := Tryz.sizeOf46
  v70 := Tryz.zeroValue46
  t72 := Tryz.underlying49
  a72 := Tryz.isAgg49
  z72 := Tryz.sizeOf49
  v72 := Tryz.zeroValue49
  t75 := Tryz.underlying52
  a75 := Tryz.isAgg52
  z75 := Tryz.sizeOf52
  v75 := Tryz.zeroValue52
  t164 := Tryz.underlying109
  a164 := Tryz.isAgg109
  z164 := Tryz.sizeOf109
  v164 := Tryz.zeroValue109 }

theorem Tryz.Builder_Extra_166 : Builder.Extra Tryz.prog Tryz.lays166_ren := {
  sizeBuilder := by kernel_rfl
  liesBuilder := by kernel_rfl
  t5 := Tryz.underlying5
  a5 := Tryz.isAgg5
  z5 := Tryz.sizeOf5
  v5 := Tryz.zeroValue5
  infoByte := by kernel_rfl
  cellsByte := by kernel_rfl
  sizeByte := by kernel_rfl
  neB5 := by decide }
theorem Tryz.Builder_WriteString (B b : Nat) (bs : List Value) (s : ByteArray) (w : World) (h : Lib.IsBuilder 49 5 B b bs w) (hlen : bs.length + s.size ≤ 140737488355328) (hBw : B ≤ w.heap.size) :
    Calls Tryz.prog 18 #[.pointer (some ⟨b, 0, none⟩), .string s] w fun e w' => e = .returned (.tuple #[.int .i64 s.size, .nilIface]) ∧ (Lib.BuilderAt 49 5 B b (.pointer (some ⟨b, 0, none⟩)) (bs ++ Lib.strCells s) w' ∧ Below B w w') := Any.Builder_WriteString Tryz.lays166 Tryz.Builder_Extra_166 B b bs s w h hlen hBw
end Go.Proofs
namespace Go.Proofs.YtbelnkdbghggmaaGreatDoor.X
open Go.RowKit Go.Shelf Go.Proofs.YtbelnkdbghggmaaGreatDoorW.PrintWords Go.Proofs.YtbelnkdbghggmaaGreatDoorW.PrintLast
attribute [local go_sem] Oper.semAt_some
set_option linter.unusedVariables false
set_option linter.unusedSimpArgs false
/-- A number's decimal numeral. -/
def itoaB (n : Int) : ByteArray := ⟨(Lib.itoa n).toArray⟩
theorem itoaB_size (n : Int) (h0 : -9223372036854775808 ≤ n) (h1 : n ≤ 9223372036854775807) : (itoaB n).size ≤ 21 := by
  unfold itoaB
  rw [show (⟨(Lib.itoa n).toArray⟩ : ByteArray).size = (Lib.itoa n).length from by simp [ByteArray.size]]
  exact Lib.itoa_length_le n h0 h1
/-- Text behind one part more. -/
def tstep (op a b c e : Int) (s : ByteArray) (k : Nat) : ByteArray := if uses op k = true then (if letter k = 105 then s ++ ((⟨#[32]⟩ : ByteArray) ++ itoaB (num a b c e k)) else s ++ ((⟨#[32, 114]⟩ : ByteArray) ++ itoaB (num a b c e k))) else s
def textP (op a b c e : Int) (pre : List Nat) : ByteArray := pre.foldl (tstep op a b c e) (nameN op.toNat)
theorem textP_snoc (op a b c e : Int) (pre : List Nat) (x : Nat) : textP op a b c e (pre ++ [x]) = tstep op a b c e (textP op a b c e pre) x := by simp [textP]
abbrev Tab (w : World) : Prop := Lib.TabIs Tryz.prog w "internal/strconv.uint64pow10" .u64 Lib.pow10Tab
theorem tab_mono {w w' : World} (h : Tab w) (hb : Below w.heap.size w w') : Tab w' := Lib.tabBelow_of_tabIs h w' hb
theorem Itoa_any (n : Int) (h0 : -9223372036854775808 ≤ n) (h1 : n ≤ 9223372036854775807) (w : World) (ht : Tab w) :
    Calls Tryz.prog 43 #[.int .i64 n] w fun e w' => e = .returned (.string (itoaB n)) ∧ Below w.heap.size w w' :=
  (Tryz.strconv_Itoa n h0 h1 w ht).mono fun e w' ⟨he, k, os, hw⟩ => ⟨he, by rw [hw]; exact Lib.below_grow _ _ (Nat.le_refl _) _ _⟩
theorem bcell {W w1 : World} (hb : Below W.heap.size W w1) : (∀ b o, b < W.heap.size → w1.cell? ⟨b, o, none⟩ = W.cell? ⟨b, o, none⟩) ∧ (∀ b o, b < W.heap.size → w1.frozen? ⟨b, o, none⟩ = W.frozen? ⟨b, o, none⟩) :=
  ⟨fun b o h => hb.cell (p := ⟨b, o, none⟩) h, fun b o h => hb.frozen (p := ⟨b, o, none⟩) h⟩
set_option maxRecDepth 100000 in
set_option maxHeartbeats 8000000 in
theorem Text_no (op a b c e : Int) (hf : inst_Fit.f op a b c e = some false) (w : World) :
    Calls Tryz.prog 25 #[.agg #[.int .i64 op, .int .i64 a, .int .i64 b, .int .i64 c, .int .i32 e]] w fun e_ w' => e_ = .returned (.string ByteArray.empty) ∧ Below w.heap.size w w' := by
  have HF := Aside0.mk hf
  have HB := Aside0.mk (below_alloc (Below.refl w.heap.size w) (.cells #[.int .i64 op, .int .i64 a, .int .i64 b, .int .i64 c, .int .i32 e] 38))
  clear hf
  go_enter Tryz.func25, Tryz.ntmps25
  go_wp2_with (go_at_call 40; (with_reducible refine (inst_Fit.calls _ _ _ _ _ false _ HF.out).mono ?_); rintro e_ w1 ⟨rfl, hb⟩)
  go_ret
  exact ⟨rfl, below_step HB.out hb⟩
theorem num_bd (op a b c e : Int) (he : -2147483648 ≤ e ∧ e ≤ 2147483647) (h : fitP op a b c e = true) (x : Nat) : -2147483648 ≤ num a b c e x ∧ num a b c e x ≤ 2147483647 := by
  unfold fitP at h
  rw [List.all_eq_true] at h
  have key : ∀ k, k < 3 → 0 ≤ num a b c e k ∧ num a b c e k < 16 := fun k hk => by
    have hb := h k (List.mem_range.2 (by omega))
    have hl : (letter k != 105) = true := by rcases k with _ | _ | _ | k <;> first | rfl | omega
    unfold bad at hb
    rw [hl] at hb
    simp at hb
    omega
  rcases x with _ | _ | _ | x
  · have := key 0 (by omega); omega
  · have := key 1 (by omega); rw [Nat.zero_add]; omega
  · have := key 2 (by omega); rw [show 0 + 1 + 1 = 2 from rfl]; omega
  · exact he
theorem bsize_append (x y : ByteArray) : (x ++ y).size = x.size + y.size := by simp [ByteArray.size_append]
theorem name_size (n : Nat) : (nameN n).size ≤ 8 := by
  unfold nameN
  by_cases h : n < 26
  · have key : ∀ k : Fin 26, (kindsL.getD k.val (ByteArray.empty, ByteArray.empty)).1.size ≤ 8 := by decide +kernel
    exact key ⟨n, h⟩
  · rw [List.getD_eq_getElem?_getD, List.getElem?_eq_none (by show 26 ≤ n; omega)]; decide
theorem textP_size (op a b c e : Int) (hn : ∀ x, -2147483648 ≤ num a b c e x ∧ num a b c e x ≤ 2147483647) (k : Nat) : ∀ pre : List Nat, pre.length = k → (textP op a b c e pre).size ≤ 8 + 23 * k := by
  induction k with
  | zero => intro pre hp; rw [List.length_eq_zero_iff.1 hp]; exact name_size _
  | succ k ih =>
    intro pre hp
    obtain ⟨q, x, rfl⟩ : ∃ q x, pre = q ++ [x] := ⟨pre.dropLast, pre.getLast (by intro h; rw [h] at hp; cases hp), (List.dropLast_concat_getLast _).symm⟩
    have hq := ih q (by simpa using hp)
    have hx := hn x
    have hz := itoaB_size (num a b c e x) (by omega) (by omega)
    rw [textP_snoc]
    unfold tstep
    split
    · split
      · rw [bsize_append, bsize_append, show (⟨#[32]⟩ : ByteArray).size = 1 from rfl]; omega
      · rw [bsize_append, bsize_append, show (⟨#[32, 114]⟩ : ByteArray).size = 2 from rfl]; omega
    · omega
theorem KeepC.setR {n₀ R : Nat} (W : World) (v : Value) (h : n₀ ≤ R) : KeepC n₀ R W (W.setCell ⟨R, 0, none⟩ v) :=
  ⟨(Below.refl n₀ W).setCell (p := ⟨R, 0, none⟩) h _, fun i o hi ho _ => (Below.heap_setCell _ _ _ _ hi).trans ho⟩
set_option maxRecDepth 100000 in
set_option maxHeartbeats 8000000 in
theorem Text_yes (op a b c e : Int) (hop : 0 ≤ op ∧ op < 26) (he : -2147483648 ≤ e ∧ e ≤ 2147483647) (hf : inst_Fit.f op a b c e = some true) (hft : fitP op a b c e = true) (w : World) (ht : Tab w) :
    Calls Tryz.prog 25 #[.agg #[.int .i64 op, .int .i64 a, .int .i64 b, .int .i64 c, .int .i32 e]] w fun e_ w' => e_ = .returned (.string (textP op a b c e (List.range 4))) ∧ Below w.heap.size w w' := by
  obtain ⟨n, rfl⟩ : ∃ m : Nat, op = (m : Int) := ⟨op.toNat, by omega⟩
  have hn : n < 26 := by omega
  have hfit := fun n_ W => (callsIn_wide (n := n_)).2 (inst_Fit.calls _ _ _ _ _ true W hf)
  have hkinds := fun n W => (callsIn_wide (n := n)).2 (kinds_any W)
  have hparts := fun n_ W => (callsIn_wide (n := n_)).2 (parts_calls #[.int .i64 (n : Int), .int .i64 a, .int .i64 b, .int .i64 c, .int .i32 e] W)
  have hix := fun W => index_kinds n hn W
  have hfi := fun W => field_name (nameN n) (shapeN n) W
  have HT := Aside0.mk ht
  have HNB := Lib.hid (num_bd _ a b c e he hft)
  have HE := Lib.hid he
  clear hft he
  have HB := Aside0.mk (below_alloc (Below.refl w.heap.size w) (.cells #[.int .i64 n, .int .i64 a, .int .i64 b, .int .i64 c, .int .i32 e] 38))
  have HI := Aside0.mk (blk_new w (.cells #[.int .i64 n, .int .i64 a, .int .i64 b, .int .i64 c, .int .i32 e] 38))
  have HSZ := Aside0.mk (show w.heap.size < (w.alloc (.cells #[.int .i64 n, .int .i64 a, .int .i64 b, .int .i64 c, .int .i32 e] 38)).heap.size by simp)
  have hu49 := Tryz.underlying97
  have hu48 := Tryz.underlying96
  have hu23 := Tryz.underlying38
  have hmx : Tryz.prog.follows .mixedOrders = true := by kernel_rfl
  clear hf hop ht
  refine (callsIn_wide (n := 3)).1 ?_
  refine callsIn_of_wp_marks Tryz.func25 rfl trivial ?_ rfl
  simp only [Tryz.ntmps25, List.size_toArray, List.length_cons, List.length_nil, Nat.reduceAdd, Nat.reduceSub, Array.replicate_succ, Array.replicate_zero, List.push_toArray, List.append_toArray, List.nil_append, List.cons_append]
  gi_upto_region 3 with (refine ⟨trivial, ?_⟩; gi_at_call 40; refine (hfit _ _).mono ?_; rintro e_ w2 ⟨rfl, hb2⟩)
  have hI2 := Aside0.mk (blk_below HI.out hb2)
  have hB2 := Aside0.mk (below_step HB.out hb2)
  have hS2 := HSZ.out
  have hs2 := hb2.size
  have hc0 : w2.cell? ⟨w.heap.size, 0, none⟩ = some (.int .i64 n) := (blk_cell hI2.out 0).trans rfl
  have hlt2 : w.heap.size < w2.heap.size := Nat.lt_of_lt_of_le hS2 hs2
  clear hb2 HB HI HSZ hfit hS2 hs2
  refine wpIn_wide.2 ?_
  go_cut [3] from 37 (fun s3 wx => ∃ SB : Nat, s3 = .pointer (some ⟨SB, 0, none⟩) ∧ w.heap.size < SB ∧ Boxed wx SB 9 (.string (nameN n)) ∧ wx.heap[w.heap.size]? = some (.cells #[.int .i64 n, .int .i64 a, .int .i64 b, .int .i64 c, .int .i32 e] 38 (0, 0)) ∧ Below w.heap.size w wx)
  case first =>
    go_region_held3 (fun w' => w'.cell? ⟨w.heap.size, 0, none⟩ = some (.int .i64 n)) (first | assumption | (simp [go_sem, *]; done) | (refine (World.cell?_alloc_past _ _ _ ?_).trans ?_ <;> first | assumption | omega | (simp [go_sem, *]; done) | (simp; omega)))
      (first | (go_at_call 52; (with_reducible refine (kinds_any _).mono ?_); rintro e_ w3 ⟨rfl, hb3⟩; have hc3 : w3.cell? ⟨w.heap.size, 0, none⟩ = some (.int .i64 n) := (hb3.cell (p := ⟨w.heap.size, 0, none⟩) (by simp; omega)).trans (by assumption); have hz3 : w.heap.size < w3.heap.size := (by have := hb3.size; simp at this; omega); obtain ⟨hcl, hfr⟩ := bcell hb3; (try simp only [World.size_alloc, World.size_drew] at hcl hfr)))
    all_goals
      go_wp2_with fail
      go_meet
    · exact ⟨w3.heap.size, rfl, by omega, Boxed.new _ _ _, blk_alloc (blk_below (blk_drew hI2.out) hb3) _, below_alloc (below_step (below_drew1 hB2.out) hb3) _⟩
    · exact ⟨w3.heap.size, rfl, by omega, Boxed.new _ _ _, blk_alloc (blk_below (blk_drew hI2.out) hb3) _, below_alloc (below_step (below_drew1 hB2.out) hb3) _⟩
    · refine ⟨w2.heap.size, rfl, hlt2, Boxed.set _ (blk_below (blk_drew (blk_new w2 _)) hb3), (Below.heap_setCell _ _ _ _ (by simp; omega)).trans (blk_below (blk_drew (blk_alloc hI2.out _)) hb3), (below_step (below_drew1 (below_alloc hB2.out _)) hb3).setCell (p := ⟨w2.heap.size, 0, none⟩) (by simp; omega) _⟩
  case rest =>
    obtain ⟨SB, rfl, hSB, hs, hi, hB⟩ := hcut
    have hi0 := blk_cell hi 0
    have hi1 := blk_cell hi 1
    have hi2 := blk_cell hi 2
    have hi3 := blk_cell hi 3
    have hi4 := blk_cell hi 4
    simp only [List.getElem?_toArray, List.getElem?_cons_zero, List.getElem?_cons_succ] at hi0 hi1 hi2 hi3 hi4
    clear hc0 hlt2 hI2 hB2
    gi_wp2_with (refine ⟨trivial, ?_⟩; gi_at_call 53; refine (hparts _ _).mono ?_; rintro e_ w4 ⟨rfl, rfl⟩)
    obtain ⟨W3, hW3⟩ : ∃ W3, W3 = wc.alloc (.cells #[.int .i64 n, .int .i64 a, .int .i64 b, .int .i64 c, .int .i32 e] 38) := ⟨_, rfl⟩
    rw [← hW3]
    have hsz : W3.heap.size = wc.heap.size + 1 := by rw [hW3]; simp
    have hB3 : Below w.heap.size w W3 := by rw [hW3]; exact below_alloc hB _
    have hs3 : Boxed W3 SB 9 (.string (nameN n)) := by rw [hW3]; exact hs.alloc _
    have hbB : W3.heap[wc.heap.size]? = some (.cells #[.int .i64 n, .int .i64 a, .int .i64 b, .int .i64 c, .int .i32 e] 38 (0, 0)) := by rw [hW3]; exact blk_new1 _ _ _ rfl
    have hSBl := hs.lt
    have hw0 := hB.size
    have hseq := parts_stops 2 (by decide) wc.heap.size SB w.heap.size n a b c e HE.out W3 hbB (by omega) (by omega) (by omega)
    clear hW3 hparts hbB hi0 hi1 hi2 hi3 hi4 hi hs hB hkinds hix hfi
    refine wpIn_rangeFunc_ownH rfl (by decide) (gf := 68) (lb := #[.pointer (some ⟨wc.heap.size, 0, none⟩)]) rfl trivial (enters_of Tryz.func68 (by kernel_rfl) rfl) hseq (fun h k => KeepC.trans h k) (KeepC.putObj (by omega)) (Below.refl _ _) (fun _ => rfl)
      (fun pre W => (Boxed W SB 9 (.string (textP n a b c e pre)) ∧ W3.heap.size ≤ W.heap.size) ∧ Below w.heap.size w W)
      (fun cd pre W => False)
      (OwnFrom.and (Own.from (fun s X Y row hs hg hr => ⟨boxed_own (β := Unit) _ _ (fun _ => _) () X Y row hs.1 hg hr, Nat.le_trans hs.2 hg.size⟩) _) (ownFrom_below (Nat.le_refl _) (by omega)))
      (fun cd => Own.from (fun s X Y row hs hg hr => hs) _)
      ⟨⟨by simpa [textP] using hs3, Nat.le_refl _⟩, hB3⟩
      (fun x a' W => ∃ q : Nat, a' = { tmps := #[.agg #[.int .i64 n, .int .i64 a, .int .i64 b, .int .i64 c, .int .i32 e], .pointer (some ⟨w.heap.size, 0, none⟩), .string ⟨#[]⟩, .pointer (some ⟨SB, 0, none⟩), .pointer (some ⟨q, 0, none⟩), .agg #[.int .i64 n, .int .i64 a, .int .i64 b, .int .i64 c, .int .i32 e], .bool true, .bool false, u8, u9, u10, u11, u12, .agg #[.int .i64 n, .int .i64 a, .int .i64 b, .int .i64 c, .int .i32 e], .func (.func 68) #[] #[.pointer (some ⟨wc.heap.size, 0, none⟩)], .agg #[.int .u8 (letter x), .int .i64 (num a b c e x), .bool (uses n x)], undef, undef, undef, undef, undef, undef, undef, undef, undef, undef, undef, undef, undef, undef, undef, undef, undef, undef, undef, undef, undef], defers := [] } ∧ W.heap[q]? = some (.cells #[.int .u8 (letter x), .int .i64 (num a b c e x), .bool (uses n x)] 103 (0, 0)) ∧ q ≠ SB)
      (fun x a' => Own.from (fun s X Y row hs hg hr => (let ⟨q, h1, h2, h3⟩ := hs; ⟨q, h1, blk_own (β := Unit) q _ _ () X Y row h2 hg hr, h3⟩)) _) ?assign ?body ?done ?stop
    case assign =>
      intro l pre x W K hI hK
      obtain ⟨⟨hv, hsW⟩, hBW⟩ := hI
      unfold partV
      gi_wp2
      exact hK _ _ (KeepsFrom.of_grownBy (World.grownBy_alloc W _ none) (fun j e => by cases e)) (KeepC.of_below (below_alloc (Below.refl _ _) _) (by omega)) ⟨⟨hv.kept (World.grownBy_alloc W _ none) (by simp), by simp; omega⟩, below_alloc hBW _⟩ ⟨W.heap.size, rfl, blk_new W _, by omega⟩
    case body =>
      rintro lp pre x a' W hl hex ⟨⟨hv, hsW⟩, hBW⟩ ⟨q, rfl, hq, hqn⟩ hlen
      have hq0 := blk_cell hq 0
      have hq1 := blk_cell hq 1
      have hq2 := blk_cell hq 2
      simp only [List.getElem?_toArray, List.getElem?_cons_zero, List.getElem?_cons_succ] at hq0 hq1 hq2
      have hc := hv.cell
      have hf := hv.frozen
      have htx := textP_snoc n a b c e pre x
      have hsize := textP_size n a b c e HNB.out pre.length pre rfl
      have hnb := HNB.out x
      have hT := Aside0.mk (tab_mono HT.out hBW)
      unfold tstep at htx
      have hib := itoaB_size (num a b c e x) (by omega) (by omega)
      clear hex
      generalize uses n x = u at *
      generalize num a b c e x = nn at *
      generalize letter x = L at *
      generalize textP n a b c e pre = s at *
      have hs100 : s.size ≤ 100 := by omega
      have hqW : q < W.heap.size := (Array.getElem?_eq_some_iff.1 hq).1
      have hSW : SB < W.heap.size := hv.lt
      have HTX := Lib.hid htx
      clear htx
      have HV := Lib.hid hv
      have HBW := Lib.hid hBW
      clear hv hBW
      cases u
      · gi_wp2
        exact ⟨KeepsFrom.refl _ _, KeepC.refl _ _ _, ⟨⟨by rw [HTX.out]; exact HV.out, hsW⟩, HBW.out⟩⟩
      · by_cases hL : L = 105
        all_goals
          gi_wp2_with fail
          gi_region_with_o (refine ⟨trivial, ?_⟩; gi_at_call 43; refine (CallsIn.inRound lp (callsIn_wide.2 (Itoa_any nn (by omega) (by omega) _ (tab_mono hT.out (by repeat (first | exact Below.refl _ _ | apply below_drew1)))))).mono ?_; rintro e_ w5 ⟨rfl, hb5⟩; obtain ⟨hcl, hfr⟩ := bcell hb5; (try simp only [World.size_alloc, World.size_drew] at hcl hfr))
          all_goals
            gi_wp2
            have hBB : Below W.heap.size W w5 := below_step (by repeat (first | exact Below.refl _ _ | apply below_drew1)) hb5
            have hv5 := HV.out.kept (grown_of_below hBB none) (by simp)
            have hs5 := hBB.size
            refine ⟨(KeepsFrom.of_grownBy (grown_of_below hBB none) (fun j e => by cases e)).trans ((KeepsOthers.setCell _ _ _).from _), (KeepC.of_below hBB (by omega)).trans (KeepC.setR _ _ (by omega)), ⟨⟨?_, by simp; omega⟩, (below_step HBW.out hBB).setCell (p := ⟨SB, 0, none⟩) (by simp; omega) _⟩⟩
            rw [HTX.out, if_pos trivial]
            first | rw [if_pos hL] | rw [if_neg hL]
            exact hv5.set _
    case done =>
      rintro D ys W hD hS ⟨⟨hv, hsW⟩, hBW⟩ hK
      have hS' : ys = List.range 4 := hS
      subst hS'
      have hc := hv.cell
      have hf := hv.frozen
      gi_wp2
      refine ⟨by simp, .inl ⟨_, _, rfl, run_takeDeferred hK, ?_⟩⟩
      exact ⟨_, results_tmp rfl _ _ _, rfl, hBW.trans (belowK_b (w := w) (Nat.le_refl _) W D _ _ (by omega) hK rfl rfl)⟩
    case stop =>
      rintro D cd pre W hD hpre h hK
      exact h.elim
def inst_Text.f (a0 a1 a2 a3 a4 : Int) : Option ByteArray := (inst_Fit.f a0 a1 a2 a3 a4).bind fun t => if t = true then some (textP a0 a1 a2 a3 a4 (List.range 4)) else some ByteArray.empty
theorem inst_Text.calls (a0_0 : Int) (a0_1 : Int) (a0_2 : Int) (a0_3 : Int) (a0_4 : Int) (r : ByteArray) (w : World) (ht : Tab w) (h : inst_Text.f a0_0 a0_1 a0_2 a0_3 a0_4 = some r) :
    Calls Tryz.prog 25 #[.agg #[.int .i64 a0_0, .int .i64 a0_1, .int .i64 a0_2, .int .i64 a0_3, .int .i32 a0_4]] w fun e w' => e = .returned (.string r) ∧ Below w.heap.size w w' := by
  unfold inst_Text.f at h
  obtain ⟨t, hft, h⟩ := Option.bind_eq_some_iff.1 h
  cases t
  · rw [if_neg (by decide)] at h
    cases h
    exact Text_no _ _ _ _ _ hft w
  · rw [if_pos rfl] at h
    cases h
    have hft2 := hft
    unfold inst_Fit.f at hft2
    split at hft2
    · rename_i he
      have hb := Option.some.inj hft2
      unfold fitB at hb
      rw [Bool.and_eq_true, decide_eq_true_eq] at hb
      exact Text_yes _ _ _ _ _ hb.1 he hft hb.2 w ht
    · cases hft2
end Go.Proofs.YtbelnkdbghggmaaGreatDoor.X
namespace Go.Proofs.YtbelnkdbghggmaaGreatDoor.X
open Go.RowKit Go.Proofs.YtbelnkdbghggmaaGreatDoorW.PrintWords
set_option linter.unusedVariables false
set_option linter.unusedSimpArgs false
theorem fitP_iff (op a b c e : Int) : fitP op a b c e = (!(bad op a b c e 0) && !(bad op a b c e 1) && !(bad op a b c e 2) && !(bad op a b c e 3)) := by
  unfold fitP
  rw [show List.range 4 = [0, 1, 2, 3] from rfl]
  simp [Bool.and_assoc]
theorem fitB_regs {op a b c e : Int} (h : fitB op a b c e = true) : 0 ≤ op ∧ op < 26 ∧ 0 ≤ a ∧ a < 16 ∧ 0 ≤ b ∧ b < 16 ∧ 0 ≤ c ∧ c < 16 := by
  unfold fitB at h
  rw [Bool.and_eq_true, decide_eq_true_eq, fitP_iff] at h
  obtain ⟨h0, h1⟩ := h
  simp [bad, num, letter] at h1
  omega
end Go.Proofs.YtbelnkdbghggmaaGreatDoor.X
