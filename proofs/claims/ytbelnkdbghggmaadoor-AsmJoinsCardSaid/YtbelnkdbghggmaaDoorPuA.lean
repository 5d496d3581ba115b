/- Plain laws: what the words of instructions come to, in numbers. -/
import Derived.Test.YtbelnkdbghggmaaDoorIh
import Derived.Test.YtbelnkdbghggmaaDoorIj
import Derived.Laws.BitsLemmas
namespace Go.Proofs.YtbelnkdbghggmaaDoor.X
open Go.RowKit Go.Proofs.YtbelnkdbghggmaaDoorW.PrintWords
set_option linter.unusedVariables false
set_option linter.unusedSimpArgs false
theorem i32_bd {n : Int} (h : (Lit.int .i32 n).wf = true) : -2147483648 ≤ n ∧ n ≤ 2147483647 := by
  simp only [Lit.wf, Bool.and_eq_true, decide_eq_true_eq] at h
  exact h
end Go.Proofs.YtbelnkdbghggmaaDoor.X
