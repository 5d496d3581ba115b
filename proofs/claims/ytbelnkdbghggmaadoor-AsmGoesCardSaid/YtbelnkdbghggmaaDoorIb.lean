/- Contract of inst.Shape: which parts an instruction uses; of an Op that is none it is empty. -/
import Derived.Test.YtbelnkdbghggmaaDoorIa
namespace Go.Proofs.YtbelnkdbghggmaaDoor.X
open Go.RowKit Go.Proofs.YtbelnkdbghggmaaDoorW.PrintWords Go.Proofs.YtbelnkdbghggmaaDoorW.PrintLast
set_option linter.unusedVariables false
set_option linter.unusedSimpArgs false
/-- What an instruction is called; which parts it uses. -/
def nameN (n : Nat) : ByteArray := (kindsL.getD n (ByteArray.empty, ByteArray.empty)).1
def shapeN (n : Nat) : ByteArray := (kindsL.getD n (ByteArray.empty, ByteArray.empty)).2
def shapeOf (op : Int) : ByteArray := if 0 ≤ op ∧ op < 26 then shapeN op.toNat else ByteArray.empty
theorem kinds_at : ∀ n, n < 26 → kindsV.extract (n * 2) (n * 2 + 2) = #[.string (nameN n), .string (shapeN n)]
  | 0, _ => rfl
  | 1, _ => rfl
  | 2, _ => rfl
  | 3, _ => rfl
  | 4, _ => rfl
  | 5, _ => rfl
  | 6, _ => rfl
  | 7, _ => rfl
  | 8, _ => rfl
  | 9, _ => rfl
  | 10, _ => rfl
  | 11, _ => rfl
  | 12, _ => rfl
  | 13, _ => rfl
  | 14, _ => rfl
  | 15, _ => rfl
  | 16, _ => rfl
  | 17, _ => rfl
  | 18, _ => rfl
  | 19, _ => rfl
  | 20, _ => rfl
  | 21, _ => rfl
  | 22, _ => rfl
  | 23, _ => rfl
  | 24, _ => rfl
  | 25, _ => rfl
  | n + 26, h => absurd h (by omega)
theorem index_kinds (n : Nat) (hn : n < 26) (w : World) : (Instr.index 76 (.agg kindsV) (.int .i64 (n : Int))).run Tryd.prog w = .ok (.agg #[.string (nameN n), .string (shapeN n)]) w := by
  have h := Tryd.underlying76
  have hn1 : 0 ≤ (n : Int) ∧ (n : Int) < ((26 : Nat) : Int) := by omega
  rw [← kinds_at n hn]
  simp [Instr.index, run_underlying h, asIntOf, hn1, go_sem]
  intro hh
  omega
theorem field_kinds (a b : ByteArray) (w : World) : (Instr.field 75 (.agg #[.string a, .string b]) 1).run Tryd.prog w = .ok (.string b) w := by
  have h := Tryd.underlying75
  have h9 := Tryd.underlying9
  have hc9 : Tryd.prog.cellsOf 9 = 1 := by kernel_rfl
  simp [Instr.field, run_underlying h, run_underlying h9, hc9, asAgg, go_sem]
theorem field_name (a b : ByteArray) (w : World) : (Instr.field 75 (.agg #[.string a, .string b]) 0).run Tryd.prog w = .ok (.string a) w := by
  have h := Tryd.underlying75
  have h9 := Tryd.underlying9
  have hc9 : Tryd.prog.cellsOf 9 = 1 := by kernel_rfl
  simp [Instr.field, run_underlying h, run_underlying h9, hc9, asAgg, go_sem]
set_option maxRecDepth 100000 in
set_option maxHeartbeats 8000000 in
theorem Shape_in (n : Nat) (hn : n < 26) (w : World) : Calls Tryd.prog 40 #[.int .i64 (n : Int)] w fun e w' => e = .returned (.string (shapeN n)) ∧ Below w.heap.size w w' := by
  have hu49 := Tryd.underlying76
  have hu48 := Tryd.underlying75
  have HK := Aside0.mk (show inst_known.f (n : Int) = some true by unfold inst_known.f; rw [if_pos (by omega), decide_eq_true (by omega)])
  have hix := fun W => index_kinds n hn W
  have hfi := fun W => field_kinds (nameN n) (shapeN n) W
  go_enter Tryd.func40, Tryd.ntmps40
  go_wp2_with (first | (go_at_call 44; (with_reducible refine (inst_known.calls (n : Int) true _ HK.out).mono ?_); rintro e w1 ⟨rfl, ⟨nd, rfl⟩⟩) | (go_at_call 28; (with_reducible refine (kinds_any _).mono ?_); rintro e w2 ⟨rfl, hb⟩))
  go_ret
  exact ⟨rfl, below_step (by repeat (first | exact Below.refl _ _ | apply pw_below_drewN | apply below_drew1)) hb⟩
set_option maxRecDepth 100000 in
set_option maxHeartbeats 8000000 in
theorem Shape_out (op : Int) (h : ¬ (0 ≤ op ∧ op < 26)) (w : World) : Calls Tryd.prog 40 #[.int .i64 op] w fun e w' => e = .returned (.string ByteArray.empty) ∧ Below w.heap.size w w' := by
  have HK := Aside0.mk (show inst_known.f op = some false by
    unfold inst_known.f
    by_cases h0 : op ≥ 0
    · rw [if_pos h0, decide_eq_false (by omega)]
    · rw [if_neg h0])
  clear h
  go_enter Tryd.func40, Tryd.ntmps40
  go_wp2_with (go_at_call 44; (with_reducible refine (inst_known.calls op false _ HK.out).mono ?_); rintro e w1 ⟨rfl, ⟨nd, rfl⟩⟩)
  go_ret
  exact ⟨rfl, by repeat (first | exact Below.refl _ _ | apply pw_below_drewN | apply below_drew1)⟩
def inst_Shape.f (a0 : Int) : Option ByteArray := some (shapeOf a0)
theorem inst_Shape.calls (a0 : Int) (r : ByteArray) (w : World) (h : inst_Shape.f a0 = some r) :
    Calls Tryd.prog 40 #[.int .i64 a0] w fun e w' => e = .returned (.string r) ∧ Below w.heap.size w w' := by
  obtain rfl := Option.some.inj h
  unfold shapeOf
  by_cases hh : 0 ≤ a0 ∧ a0 < 26
  · rw [if_pos hh]
    obtain ⟨n, rfl⟩ : ∃ m : Nat, a0 = (m : Int) := ⟨a0.toNat, by omega⟩
    rw [Int.toNat_natCast]
    exact Shape_in n (by omega) w
  · rw [if_neg hh]
    exact Shape_out a0 hh w
end Go.Proofs.YtbelnkdbghggmaaDoor.X
