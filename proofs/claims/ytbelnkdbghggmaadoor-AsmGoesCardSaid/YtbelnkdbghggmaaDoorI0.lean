/- Walks of Go functions: each proves that the call answers what the Lean function of its name computes, wherever that is told; written by a program of this work out of the translation. -/
import Derived.Test.YtbelnkdbghggmaaDoorXx0
namespace Go.Proofs.YtbelnkdbghggmaaDoor.X
open Go.RowKit Go.Proofs.YtbelnkdbghggmaaDoorW.PrintWords Go.Proofs.YtbelnkdbghggmaaDoorW.PrintLast

set_option linter.unusedVariables false
set_option linter.unusedSimpArgs false

/-! ### inst_known: function 44 -/
def inst_known.f (a0 : Int) : Option (Bool) := if a0 ≥ 0 then (some (decide (a0 < 26))) else (some false)
set_option maxHeartbeats 8000000 in
set_option maxRecDepth 100000 in
theorem inst_known.calls (a0 : Int) (r : Bool) (w : World) (h : inst_known.f a0 = some r) :
    Calls Tryd.prog 44 #[.int .i64 a0] w fun e w' => e = .returned (.bool r) ∧ Drawn0 w w' := by
  have H : (if a0 ≥ 0 then (some (decide (a0 < 26))) else (some false)) = some r := h
  clear h
  by_cases c2 : a0 ≥ 0
  · rw [if_pos c2] at H
    have c2b0 : decide (0 ≤ a0) = true := decide_eq_true c2
    clear c2
    obtain rfl := Option.some.inj H
    go_enter Tryd.func44, Tryd.ntmps44
    go_wp2
    go_ret
    exact ⟨by first | rfl | (simp; done) | (simp [*]; done), by repeat (first | exact Drawn0.refl _ | apply Drawn0.step)⟩
  · rw [if_neg c2] at H
    have c2b0 : decide (0 ≤ a0) = false := decide_eq_false c2
    clear c2
    obtain rfl := Option.some.inj H
    go_enter Tryd.func44, Tryd.ntmps44
    go_wp2
    go_ret
    exact ⟨by first | rfl | (simp; done) | (simp [*]; done), by repeat (first | exact Drawn0.refl _ | apply Drawn0.step)⟩

-- NOT PRINTED: function 29 (inst_parts)

-- NOT PRINTED: function 27 (inst_Fit)

-- NOT PRINTED: function 25 (inst_Encode)

-- NOT PRINTED: function 15 (inst_Decode)
end Go.Proofs.YtbelnkdbghggmaaDoor.X
