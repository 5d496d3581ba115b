/- The plain law of InstBack, and the call. -/
import Derived.Test.YtnebgpegkihgdaaDoorPuD
import Derived.Test.YtnebgpegkihgdaaDoorXx7
namespace Go.Proofs.YtnebgpegkihgdaaDoor.X
open Go.RowKit Go.Proofs.YtnebgpegkihgdaaDoorW.PrintWords
set_option linter.unusedVariables false
set_option linter.unusedSimpArgs false
theorem j1_true (K : Nat) (op a b c e op' a' b' c' e' : Int) (he : -2147483648 ≤ e ∧ e ≤ 2147483647) (he' : -2147483648 ≤ e' ∧ e' ≤ 2147483647) (h : fitB op a b c e = true) (h' : fitB op' a' b' c' e' = true) :
    curtilagelaw08_InstBack.j1 (K + 1) false op a b c e op' a' b' c' e' = some true := by
  simp only [curtilagelaw08_InstBack.j1]
  rw [if_neg (by decide), Encode_val _ _ _ _ _ he, if_pos h, Encode_val _ _ _ _ _ he', if_pos h', Text_val _ _ _ _ _ he, if_pos h, Text_val _ _ _ _ _ he', if_pos h', awake_val]
  obtain ⟨hx, d1, d2, d3, d4, d5⟩ := dec_enc op a b c e h he
  obtain ⟨hx', f1, f2, f3, f4, f5⟩ := dec_enc op' a' b' c' e' h' he'
  simp only [Option.bind_some]
  rw [Decode_val _ hx, d1, d2, d3, d4, d5, if_pos ⟨h, rfl⟩]
  simp only [Option.bind_some, beq_self_eq_true, Bool.and_self, if_true]
  have hsame : (op == op' && (a == a' && (b == b' && (c == c' && e == e')))) = decide (op = op' ∧ a = a' ∧ b = b' ∧ c = c' ∧ e = e') := by
    rw [Bool.eq_iff_iff]
    simp
  rw [hsame]
  have hw : (encS op a b c e == encS op' a' b' c' e') = decide (op = op' ∧ a = a' ∧ b = b' ∧ c = c' ∧ e = e') := by
    rw [Bool.eq_iff_iff, beq_iff_eq, decide_eq_true_eq]
    constructor
    · intro hq
      exact ⟨by rw [← d1, ← f1, hq], by rw [← d2, ← f2, hq], by rw [← d3, ← f3, hq], by rw [← d4, ← f4, hq], by rw [← d5, ← f5, hq]⟩
    · rintro ⟨rfl, rfl, rfl, rfl, rfl⟩
      rfl
  have ht : ((textP op a b c e (List.range 4)).toList == (textP op' a' b' c' e' (List.range 4)).toList) = decide (op = op' ∧ a = a' ∧ b = b' ∧ c = c' ∧ e = e') := by
    rw [Bool.eq_iff_iff, beq_iff_eq, decide_eq_true_eq, ByteArray.toList_eq, ByteArray.toList_eq]
    constructor
    · intro hq
      exact text_inj _ _ _ _ _ _ _ _ _ _ h h' (ba_ext hq)
    · rintro ⟨rfl, rfl, rfl, rfl, rfl⟩
      rfl
  rw [hw, ht]
  simp
theorem j0_true (K : Nat) (op a b c e op' a' b' c' e' : Int) (he : -2147483648 ≤ e ∧ e ≤ 2147483647) (he' : -2147483648 ≤ e' ∧ e' ≤ 2147483647) :
    curtilagelaw08_InstBack.j0 (K + 2) false op a b c e op' a' b' c' e' = some true := by
  have hno : ∀ (hn : ¬ (fitB op a b c e = true ∧ fitB op' a' b' c' e' = true)), curtilagelaw08_InstBack.j1 (K + 1) true op a b c e op' a' b' c' e' = some true := by
    intro hn
    simp only [curtilagelaw08_InstBack.j1]
    rw [if_pos trivial, Fit_val _ _ _ _ _ he]
    simp only [Option.bind_some]
    by_cases h : fitB op a b c e = true
    · rw [if_pos h]
    · rw [if_neg h, Encode_val _ _ _ _ _ he, if_neg h, Text_val _ _ _ _ _ he, if_neg h, awake_val]
      simp only [Option.bind_some, if_true]
      rw [if_pos (by decide +kernel)]
  simp only [curtilagelaw08_InstBack.j0]
  rw [if_neg (by decide), Fit_val _ _ _ _ _ he, Fit_val _ _ _ _ _ he']
  simp only [Option.bind_some]
  by_cases h : fitB op a b c e = true
  · rw [if_pos h]
    by_cases h' : fitB op' a' b' c' e' = true
    · rw [h']
      exact j1_true K _ _ _ _ _ _ _ _ _ _ he he' h h'
    · rw [show (!fitB op' a' b' c' e') = true by simp [h']]
      exact hno (fun k => h' k.2)
  · rw [if_neg h]
    exact hno (fun k => h k.1)
theorem InstBack_val (op a b c e op' a' b' c' e' x : Int) (he : -2147483648 ≤ e ∧ e ≤ 2147483647) (he' : -2147483648 ≤ e' ∧ e' ≤ 2147483647) (hx : 0 ≤ x ∧ x ≤ 18446744073709551615) : curtilagelaw08_InstBack.f 60 op a b c e op' a' b' c' e' x = some true := by
  unfold curtilagelaw08_InstBack.f
  rw [Decode_val x hx]
  have hi := (dec_parts x hx).2.2.2.2.1
  by_cases h : fitB (decOp x) (decA x) (decB x) (decC x) (decI x) = true ∧ encS (decOp x) (decA x) (decB x) (decC x) (decI x) = x
  · rw [if_pos h]
    obtain ⟨h1, h2⟩ := h
    have e1 := Encode_val (decOp x) (decA x) (decB x) (decC x) (decI x) hi
    have e2 := Fit_val (decOp x) (decA x) (decB x) (decC x) (decI x) hi
    rw [if_pos h1, h2] at e1
    rw [h1] at e2
    simp only [Option.bind_some, e1, e2, if_true, Bool.not_true]
    exact j0_true 58 _ _ _ _ _ _ _ _ _ _ he he'
  · rw [if_neg h]
    simp only [Option.bind_some]
    rw [if_neg (by decide)]
    exact j0_true 58 _ _ _ _ _ _ _ _ _ _ he he'
theorem InstBack_true (op a b c e op' a' b' c' e' x : Int) (_ : -9223372036854775808 ≤ op ∧ op ≤ 9223372036854775807) (_ : -9223372036854775808 ≤ a ∧ a ≤ 9223372036854775807) (_ : -9223372036854775808 ≤ b ∧ b ≤ 9223372036854775807) (_ : -9223372036854775808 ≤ c ∧ c ≤ 9223372036854775807) (he : -2147483648 ≤ e ∧ e ≤ 2147483647)
    (_ : -9223372036854775808 ≤ op' ∧ op' ≤ 9223372036854775807) (_ : -9223372036854775808 ≤ a' ∧ a' ≤ 9223372036854775807) (_ : -9223372036854775808 ≤ b' ∧ b' ≤ 9223372036854775807) (_ : -9223372036854775808 ≤ c' ∧ c' ≤ 9223372036854775807) (he' : -2147483648 ≤ e' ∧ e' ≤ 2147483647) (hx : 0 ≤ x ∧ x ≤ 18446744073709551615) (W : World) (ht : Tab W) :
    Calls Tryd.prog 4 #[.agg #[.int .i64 op, .int .i64 a, .int .i64 b, .int .i64 c, .int .i32 e], .agg #[.int .i64 op', .int .i64 a', .int .i64 b', .int .i64 c', .int .i32 e'], .int .u64 x] W fun e w' => e = .returned (.bool true) ∧ Below W.heap.size W w' :=
  curtilagelaw08_InstBack.calls 60 op a b c e op' a' b' c' e' x W ht (InstBack_val op a b c e op' a' b' c' e' x he he' hx)
end Go.Proofs.YtnebgpegkihgdaaDoor.X
