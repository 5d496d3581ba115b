/- The reference's Same of two labels over lists. -/
import Derived.Test.YtfoagjdcgipcaaaPuB
import Derived.Test.YtfoagjdcgipcaaaXx4
namespace Go.Proofs.Ytfoagjdcgipcaaa.X
open Go.RowKit Go.Proofs.YtfoagjdcgipcaaaW.PrintWords Go.Proofs.YtfoagjdcgipcaaaW.PrintLast
set_option linter.unusedVariables false
set_option linter.unusedSimpArgs false
namespace Tb
/-! ### the reference's Same, Find, Fit -/
theorem rSame_eq (a b : List S57) (hm : a.length ≤ 1000) (e : a.length = b.length) (d : Nat) : ∀ (k i : Nat), i ≤ a.length → a.length - i = d → d + 1 ≤ k → curtilageref02_Same.l0 k a b (i : Int) = some (decide (a.drop i = b.drop i)) := by
  induction d with
  | zero =>
    intro k i h1 h2 hk
    obtain ⟨k, rfl⟩ : ∃ m, k = m + 1 := ⟨k - 1, by omega⟩
    obtain rfl : i = a.length := by omega
    rw [curtilageref02_Same.l0, if_neg (by omega), List.drop_length, e, List.drop_length]
    rfl
  | succ d ih =>
    intro k i h1 h2 hk
    obtain ⟨k, rfl⟩ : ∃ m, k = m + 1 := ⟨k - 1, by omega⟩
    have ha : i < a.length := by omega
    have hb : i < b.length := by omega
    rw [curtilageref02_Same.l0, if_pos (by omega), if_pos (by omega), if_pos (by omega), wrap_nat i (by omega), rd57_at a i ha, rd57_at b i hb, ih k (i + 1) (by omega) (by omega) (by omega), List.drop_eq_getElem_cons ha, List.drop_eq_getElem_cons hb]
    generalize a.drop (i + 1) = u
    generalize b.drop (i + 1) = v
    generalize a[i] = x
    generalize b[i] = y
    by_cases h : x = y
    · subst h
      simp
    · rw [if_pos]
      · simp [h]
      · rw [s57_ext] at h
        by_cases h1 : x.f0 = y.f0
        · simp [h1] at h ⊢
          exact h
        · simp [h1]
theorem rSame (a b : List S57) (hm : a.length ≤ 1000) (k : Nat) (hk : 1001 ≤ k) : curtilageref02_Same.f k a b = some (decide (a = b)) := by
  unfold curtilageref02_Same.f
  by_cases e : a.length = b.length
  · rw [if_pos (by omega)]
    exact rSame_eq a b hm e a.length k 0 (by omega) (by omega) (by omega)
  · rw [if_neg (by omega)]
    have : a ≠ b := fun h => e (by rw [h])
    simp [this]
end Tb
end Go.Proofs.Ytfoagjdcgipcaaa.X
