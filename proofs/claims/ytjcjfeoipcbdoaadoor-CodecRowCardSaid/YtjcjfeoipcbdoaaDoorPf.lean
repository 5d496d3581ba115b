/- Plain laws: which labels can be. -/
import Derived.Test.YtjcjfeoipcbdoaaDoorJa
import Derived.Test.YtjcjfeoipcbdoaaDoorJb
namespace Go.Proofs.YtjcjfeoipcbdoaaDoor.X
open Go.RowKit Go.Proofs.YtjcjfeoipcbdoaaDoorW.PrintWords
set_option linter.unusedVariables false
set_option linter.unusedSimpArgs false
/-- A pair that may stand at its place. -/
def fitAt (l : List S47) (i : Nat) : Bool := (decide (0 ≤ (rd_T47 l i).f1) && decide ((rd_T47 l i).f1 ≤ 5)) && !((rd_T47 l i).f1 == 2) && (i == 0 || decide ((rd_T47 l (i - 1 : Nat)).f0 < (rd_T47 l i).f0))
/-- A label that can be. -/
def fitL (l : List S47) : Bool := (List.range l.length).all (fitAt l)
def fitFrom (l : List S47) (i d : Nat) : Bool := (List.range' i d).all (fitAt l)
theorem fitL_from (l : List S47) : fitL l = fitFrom l 0 l.length := by unfold fitL fitFrom; rw [List.range_eq_range']
theorem level_val (a : Int) : level_Fit.f a = some (decide (0 ≤ a) && decide (a ≤ 5)) := by
  unfold level_Fit.f
  by_cases h : a ≥ 0
  · rw [if_pos h, decide_eq_true (show 0 ≤ a from h)]; rfl
  · rw [if_neg h, decide_eq_false (show ¬ 0 ≤ a from h)]; rfl
theorem rlevel_val (a : Int) : curtilageref01_Fit.f a = some (decide (0 ≤ a) && decide (a ≤ 5)) := by
  unfold curtilageref01_Fit.f
  by_cases h : a ≥ 0
  · rw [if_pos h, decide_eq_true (show 0 ≤ a from h)]; rfl
  · rw [if_neg h, decide_eq_false (show ¬ 0 ≤ a from h)]; rfl
theorem wrapS {i : Int} (h0 : 0 ≤ i) (h : i < 9223372036854775807) : wrap64 (i + 1) = i + 1 := by unfold wrap64; omega
theorem wrapP {i : Int} (h0 : 1 ≤ i) (h : i < 9223372036854775807) : wrap64 (i - 1) = i - 1 := by unfold wrap64; omega
theorem label_l0 (l : List S47) (hl : l.length < 9223372036854775807) (d : Nat) : ∀ (k i : Nat), i + d = l.length → d < k → label_Fit.l0 k l l (l.length : Int) (i : Int) = some (fitFrom l i d) := by
  induction d with
  | zero =>
    intro k i hi hk
    obtain ⟨k, rfl⟩ : ∃ m, k = m + 1 := ⟨k - 1, by omega⟩
    simp only [label_Fit.l0]
    rw [if_neg (by omega)]
    rfl
  | succ d ih =>
    intro k i hi hk
    obtain ⟨k, rfl⟩ : ∃ m, k = m + 1 := ⟨k - 1, by omega⟩
    have ih := ih k (i + 1) (by omega) (by omega)
    have hf : fitFrom l i (d + 1) = (fitAt l i && fitFrom l (i + 1) d) := by unfold fitFrom; rw [List.range'_succ, List.all_cons]
    simp only [label_Fit.l0]
    rw [if_pos (by omega), if_pos (by omega), if_pos (by omega), level_val, hf]
    simp only [Option.bind_some]
    have hw : wrap64 ((i : Int) + 1) = ((i + 1 : Nat) : Int) := by rw [wrapS (by omega) (by omega)]; omega
    unfold fitAt
    by_cases h1 : (decide (0 ≤ (rd_T47 l i).f1) && decide ((rd_T47 l i).f1 ≤ 5)) = true
    · rw [if_pos h1, h1]
      by_cases h2 : (rd_T47 l i).f1 = 2
      · rw [if_pos h2, h2]; rfl
      · rw [if_neg h2, show ((rd_T47 l i).f1 == 2) = false by simp [h2]]
        by_cases h3 : (i : Int) > 0
        · have hw2 : wrap64 ((i : Int) - 1) = ((i - 1 : Nat) : Int) := by rw [wrapP (by omega) (by omega)]; omega
          rw [if_pos h3, hw2, if_pos (by omega), if_pos (by omega), show (i == 0) = false by simp; omega]
          by_cases h4 : (rd_T47 l (i - 1 : Nat)).f0 ≥ (rd_T47 l i).f0
          · rw [if_pos h4, decide_eq_false (by omega)]; rfl
          · rw [if_neg h4, decide_eq_true (by omega), hw, ih]; rfl
        · rw [if_neg h3, hw, ih, show (i == 0) = true by simp; omega]; rfl
    · rw [if_neg h1, Bool.eq_false_iff.2 h1]; rfl
theorem label_val (l : List S47) (hl : l.length < 9223372036854775807) (k : Nat) (hk : l.length < k) : label_Fit.f k l = some (fitL l) := by
  unfold label_Fit.f
  rw [fitL_from]
  exact label_l0 l hl l.length k 0 (by omega) hk
theorem ref_l0 (l : List S47) (hl : l.length < 9223372036854775807) (d : Nat) : ∀ (k i : Nat), i + d = l.length → d < k → curtilageref02_Fit.l0 k l (i : Int) = some (fitFrom l i d) := by
  induction d with
  | zero =>
    intro k i hi hk
    obtain ⟨k, rfl⟩ : ∃ m, k = m + 1 := ⟨k - 1, by omega⟩
    simp only [curtilageref02_Fit.l0]
    rw [if_neg (by omega)]
    rfl
  | succ d ih =>
    intro k i hi hk
    obtain ⟨k, rfl⟩ : ∃ m, k = m + 1 := ⟨k - 1, by omega⟩
    have ih := ih k (i + 1) (by omega) (by omega)
    have hf : fitFrom l i (d + 1) = (fitAt l i && fitFrom l (i + 1) d) := by unfold fitFrom; rw [List.range'_succ, List.all_cons]
    simp only [curtilageref02_Fit.l0]
    rw [if_pos (by omega), if_pos (by omega), rlevel_val, hf]
    simp only [Option.bind_some]
    have hw : wrap64 ((i : Int) + 1) = ((i + 1 : Nat) : Int) := by rw [wrapS (by omega) (by omega)]; omega
    unfold fitAt
    by_cases h1 : (decide (0 ≤ (rd_T47 l i).f1) && decide ((rd_T47 l i).f1 ≤ 5)) = true
    · rw [if_pos h1, h1]
      by_cases h2 : (rd_T47 l i).f1 = 2
      · rw [if_pos h2, h2]; rfl
      · rw [if_neg h2, show ((rd_T47 l i).f1 == 2) = false by simp [h2]]
        by_cases h3 : (i : Int) > 0
        · have hw2 : wrap64 ((i : Int) - 1) = ((i - 1 : Nat) : Int) := by rw [wrapP (by omega) (by omega)]; omega
          rw [if_pos h3, hw2, if_pos (by omega), if_pos (by omega), show (i == 0) = false by simp; omega]
          by_cases h4 : (rd_T47 l (i - 1 : Nat)).f0 ≥ (rd_T47 l i).f0
          · rw [if_pos h4, decide_eq_false (by omega)]; rfl
          · rw [if_neg h4, decide_eq_true (by omega), hw, ih]; rfl
        · rw [if_neg h3, hw, ih, show (i == 0) = true by simp; omega]; rfl
    · rw [if_neg h1, Bool.eq_false_iff.2 h1]; rfl
theorem ref_val (l : List S47) (hl : l.length < 9223372036854775807) (k : Nat) (hk : l.length < k) : curtilageref02_Fit.f k l = some (fitL l) := by
  unfold curtilageref02_Fit.f
  rw [fitL_from]
  exact ref_l0 l hl l.length k 0 (by omega) hk
end Go.Proofs.YtjcjfeoipcbdoaaDoor.X
