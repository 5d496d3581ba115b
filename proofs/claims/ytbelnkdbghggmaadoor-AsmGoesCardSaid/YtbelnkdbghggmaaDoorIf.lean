/- Contract of inst.Fit in the form of the printed contracts. -/
import Derived.Test.YtbelnkdbghggmaaDoorIe
namespace Go.Proofs.YtbelnkdbghggmaaDoor.X
open Go.RowKit Go.Proofs.YtbelnkdbghggmaaDoorW.PrintWords Go.Proofs.YtbelnkdbghggmaaDoorW.PrintLast
set_option linter.unusedVariables false
set_option linter.unusedSimpArgs false
set_option maxRecDepth 100000 in
set_option maxHeartbeats 8000000 in
theorem Fit_out (op a b c e : Int) (hop : ¬ (0 ≤ op ∧ op < 26)) (w : World) :
    Calls Tryd.prog 27 #[.agg #[.int .i64 op, .int .i64 a, .int .i64 b, .int .i64 c, .int .i32 e]] w fun e_ w' => e_ = .returned (.bool false) ∧ Below w.heap.size w w' := by
  have HK := Aside0.mk (show inst_known.f op = some false by
    unfold inst_known.f
    by_cases h0 : op ≥ 0
    · rw [if_pos h0, decide_eq_false (by omega)]
    · rw [if_neg h0])
  have HB := Aside0.mk (below_alloc (below_alloc (Below.refl w.heap.size w) (.cells #[.int .i64 op, .int .i64 a, .int .i64 b, .int .i64 c, .int .i32 e] 26)) (.cells #[.bool false] 4))
  clear hop
  go_enter Tryd.func27, Tryd.ntmps27
  go_wp2_with (go_at_call 44; (with_reducible refine (inst_known.calls op false _ HK.out).mono ?_); rintro e_ w1 ⟨rfl, ⟨nd, rfl⟩⟩)
  have hbx := blk_drewN (blk_new (w.alloc (.cells #[.int .i64 op, .int .i64 a, .int .i64 b, .int .i64 c, .int .i32 e] 26)) (.cells #[.bool false] 4)) nd
  rw [World.size_alloc] at hbx
  have hbx2 := blk_put hbx 0 (.bool false) rfl
  have hc5 := blk_cell hbx2 0
  simp at hc5
  refine bodyPost_ret (v := .bool false) (by simp [results, Tryd.f27, go_sem, hc5]) rfl ?_
  exact ⟨rfl, (pw_below_drewN HB.out nd).setCell (p := ⟨w.heap.size + 1, 0, none⟩) (by simp) _⟩
/-- Whether an instruction can be. -/
def fitB (op a b c e : Int) : Bool := decide (0 ≤ op ∧ op < 26) && fitP op a b c e
def inst_Fit.f (a0_0 a0_1 a0_2 a0_3 a0_4 : Int) : Option Bool := if -2147483648 ≤ a0_4 ∧ a0_4 ≤ 2147483647 then some (fitB a0_0 a0_1 a0_2 a0_3 a0_4) else none
theorem inst_Fit.calls (a0_0 : Int) (a0_1 : Int) (a0_2 : Int) (a0_3 : Int) (a0_4 : Int) (r : Bool) (w : World) (h : inst_Fit.f a0_0 a0_1 a0_2 a0_3 a0_4 = some r) :
    Calls Tryd.prog 27 #[.agg #[.int .i64 a0_0, .int .i64 a0_1, .int .i64 a0_2, .int .i64 a0_3, .int .i32 a0_4]] w fun e w' => e = .returned (.bool r) ∧ Below w.heap.size w w' := by
  unfold inst_Fit.f at h
  split at h
  · rename_i he
    obtain rfl := Option.some.inj h
    unfold fitB
    by_cases hop : 0 ≤ a0_0 ∧ a0_0 < 26
    · rw [decide_eq_true hop, Bool.true_and]
      exact Fit_in _ _ _ _ _ hop he w
    · rw [decide_eq_false hop, Bool.false_and]
      exact Fit_out _ _ _ _ _ hop w
  · cases h
end Go.Proofs.YtbelnkdbghggmaaDoor.X
