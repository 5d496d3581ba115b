/- Plain laws: labels as words, the program's. -/
import Derived.Test.YtjcjfeoipcbdoaaDoorPuCodecTexts
namespace Go.Proofs.YtjcjfeoipcbdoaaDoor.X
open Go.RowKit Go.Proofs.YtjcjfeoipcbdoaaDoorW.PrintWords
set_option linter.unusedVariables false
set_option linter.unusedSimpArgs false
def pairW (p : S47) : List Int := [p.f0, p.f1]
/-- A label's words. -/
def wordsL (l : List S47) : List Int := if fitL l = true then (l.length : Int) :: l.flatMap pairW else []
theorem flat_len (l : List S47) : (l.flatMap pairW).length = 2 * l.length := by
  induction l with
  | nil => rfl
  | cons p l ih => rw [List.flatMap_cons, List.length_append, ih, List.length_cons]; show 2 + _ = _; omega
theorem take_flat (l : List S47) (i : Nat) (h : i < l.length) : (l.take (i + 1)).flatMap pairW = (l.take i).flatMap pairW ++ pairW (l[i]'h) := by
  rw [List.take_succ_eq_append_getElem h, List.flatMap_append]
  simp
theorem cw_l (l : List S47) (hf : fitL l = true) (hl : l.length < 1000000) : ∀ (d i k : Nat), i + d = l.length → d < k →
    codec_Words.l0 k ((l.length : Int) :: (l.take i).flatMap pairW) l (l.length : Int) (i : Int) = some ((l.length : Int) :: l.flatMap pairW) := by
  intro d
  induction d with
  | zero =>
    intro i k hi hk
    obtain ⟨k, rfl⟩ : ∃ m, k = m + 1 := ⟨k - 1, by omega⟩
    obtain rfl : i = l.length := by omega
    simp only [codec_Words.l0]
    rw [if_neg (by omega), List.take_length]
  | succ d ih =>
    intro i k hi hk
    obtain ⟨k, rfl⟩ : ∃ m, k = m + 1 := ⟨k - 1, by omega⟩
    have hlt : i < l.length := by omega
    have h1 := fitL_at hf i hlt
    have htk := take_flat l i hlt
    have hlen := flat_len (l.take i)
    rw [List.length_take] at hlen
    have ih := ih (i + 1) k (by omega) (by omega)
    simp only [codec_Words.l0]
    rw [if_pos (by omega), if_pos (by omega), if_pos (by omega), rd47_at l i hlt, Option.bind_some]
    rw [show IntKind.u64.wrap (l[i]'hlt).f1 = (l[i]'hlt).f1 by rw [IntKind.wrap_u64]; omega]
    rw [if_pos (by rw [List.length_cons, hlen]; simp only [List.length_cons, List.length_nil]; omega), show wrap64 ((i : Int) + 1) = ((i + 1 : Nat) : Int) by unfold wrap64; omega]
    rw [htk] at ih
    exact ih
theorem codec_Words_val (K : Nat) (l : List S47) (hl : l.length < 1000000) (hK : l.length + 1 ≤ K) : codec_Words.f K l = some (wordsL l) := by
  unfold codec_Words.f wordsL
  rw [label_val l (by omega) K (by omega), Option.bind_some]
  by_cases hf : fitL l = true
  · rw [if_pos hf, if_pos hf, show IntKind.u64.wrap (l.length : Int) = (l.length : Int) by rw [IntKind.wrap_u64]; omega]
    exact cw_l l hf hl l.length 0 K (by omega) (by omega)
  · rw [if_neg hf, if_neg hf]
theorem wordsL_len (l : List S47) : (wordsL l).length ≤ 2 * l.length + 1 := by
  unfold wordsL
  split
  · rw [List.length_cons, flat_len]; omega
  · simp
end Go.Proofs.YtjcjfeoipcbdoaaDoor.X
