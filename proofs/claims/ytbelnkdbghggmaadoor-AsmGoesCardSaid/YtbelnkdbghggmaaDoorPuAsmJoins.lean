/- The plain law of AsmJoins. -/
import Derived.Test.YtbelnkdbghggmaaDoorPuD
import Derived.Test.YtbelnkdbghggmaaDoorXx0
import Derived.Test.YtbelnkdbghggmaaDoorXx2
import Derived.Test.YtbelnkdbghggmaaDoorRa
import Derived.Test.YtbelnkdbghggmaaDoorPa
import Derived.Test.YtbelnkdbghggmaaDoorFi
import Derived.Test.YtbelnkdbghggmaaDoorGd
import Derived.Test.YtbelnkdbghggmaaDoorIh
import Derived.Test.YtbelnkdbghggmaaDoorIb
namespace Go.Proofs.YtbelnkdbghggmaaDoor.X
open Go.RowKit Go.Proofs.YtbelnkdbghggmaaDoorW.PrintWords
set_option linter.unusedVariables false
set_option linter.unusedSimpArgs false
theorem w64 (n : Int) (h : -9223372036854775808 ≤ n ∧ n ≤ 9223372036854775807) : wrap64 n = n := by unfold wrap64; omega
theorem rd_at (xs : List S28) (i : Nat) (h : i < xs.length) : rd_T28 xs (i : Int) = xs[i] := by simp [rd_T28, List.getD_eq_getElem?_getD, h]
theorem few_l0 (l : List S28) (h : l.length ≤ 60) : ∀ (d i : Nat), i + d = l.length → ∃ k b, curtilagelaw10_few.l0 k l (l.length : Int) (i : Int) = some b
  | 0, i, e => ⟨1, true, by simp only [curtilagelaw10_few.l0]; rw [if_neg (by omega)]⟩
  | d + 1, i, e => by
    obtain ⟨k, b, hk⟩ := few_l0 l h d (i + 1) (by omega)
    by_cases hw : (wrap64 ((((rd_T28 l (i : Int)).f0).size : Int) + (((rd_T28 l (i : Int)).f2).size : Int))) > 100
    · exact ⟨1, false, by simp only [curtilagelaw10_few.l0]; rw [if_pos (by omega), if_pos (by omega), if_pos (by omega), if_pos hw]⟩
    · refine ⟨k + 1, b, ?_⟩
      simp only [curtilagelaw10_few.l0]
      rw [if_pos (by omega), if_pos (by omega), if_pos (by omega), if_neg hw, w64 _ (by omega), show (i : Int) + 1 = ((i + 1 : Nat) : Int) by omega]
      exact hk
theorem few_ex (l : List S28) : ∃ k b, curtilagelaw10_few.f k l = some b ∧ (b = true → l.length ≤ 60) := by
  by_cases h : l.length ≤ 60
  · obtain ⟨k, b, hk⟩ := few_l0 l h l.length 0 (by omega)
    refine ⟨k, b, ?_, fun _ => h⟩
    unfold curtilagelaw10_few.f
    rw [if_neg (by omega)]
    exact hk
  · refine ⟨0, false, ?_, fun e => by cases e⟩
    unfold curtilagelaw10_few.f
    rw [if_pos (by omega)]
theorem put_val (l : List S28) (h : wfLb l = true) : asm_Put.f l = some (asmPut l) := by unfold asm_Put.f; rw [if_pos h]
theorem wfLb_few {l : List S28} (h : ∀ x ∈ l, wfX x) (hl : l.length ≤ 60) : wfLb l = true := (wfLb_iff l).2 ⟨h, by omega⟩
end Go.Proofs.YtbelnkdbghggmaaDoor.X
