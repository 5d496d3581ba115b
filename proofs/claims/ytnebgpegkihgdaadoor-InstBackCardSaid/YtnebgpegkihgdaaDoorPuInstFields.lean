/- The plain law of InstFields, and the call. -/
import Derived.Test.YtnebgpegkihgdaaDoorPuA
namespace Go.Proofs.YtnebgpegkihgdaaDoor.X
open Go.RowKit Go.Proofs.YtnebgpegkihgdaaDoorW.PrintWords
set_option linter.unusedVariables false
set_option linter.unusedSimpArgs false
theorem fit_used {op a b c e : Int} (h : fitB op a b c e = true) (k : Nat) (hk : k < 4) : uses op k = true ∨ num a b c e k = 0 := by
  unfold fitB at h
  rw [Bool.and_eq_true, decide_eq_true_eq] at h
  have h1 := h.2
  unfold fitP at h1
  rw [List.all_eq_true] at h1
  have h2 := h1 k (List.mem_range.2 hk)
  unfold bad at h2
  cases hu : uses op k with
  | true => exact .inl rfl
  | false =>
    rw [hu] at h2
    right
    simp at h2
    exact h2.1
theorem upper_zero (x op a b c e : Int) (h : encS op a b c e = x) (ho : 0 ≤ op ∧ op < 26) (ha : 0 ≤ a ∧ a < 16) (hb : 0 ≤ b ∧ b < 16) (hc : 0 ≤ c ∧ c < 16) : x / 1048576 % 4096 = 0 := by
  unfold encS at h
  omega
theorem decOp_ne (x : Int) : (decOp x != wrap64 (Go.bits .and .u64 x 255)) = false := by
  rw [bne_eq_false_iff_eq]
  unfold decOp
  generalize Go.bits .and .u64 x 255 = y
  rw [IntKind.wrap_i64]
  unfold wrap64
  rfl
theorem fit_four {op a b c e : Int} (h : fitB op a b c e = true) (ho : 0 ≤ op ∧ op < 26) (m : List (Int × Bool)) (hm : letters (shapeOf op).data.toList [] = m) :
    (Mp.getL 97 false m = true ∨ a = 0) ∧ (Mp.getL 98 false m = true ∨ b = 0) ∧ (Mp.getL 99 false m = true ∨ c = 0) ∧ (Mp.getL 105 false m = true ∨ e = 0) := by
  subst hm
  have hl := fun k hk => (shape_letters op ho k hk).1
  have hu := fun k hk => fit_used h k hk
  refine ⟨?_, ?_, ?_, ?_⟩
  · rw [show (97 : Int) = letter 0 from rfl, hl 0 (by decide)]; exact hu 0 (by decide)
  · rw [show (98 : Int) = letter 1 from rfl, hl 1 (by decide)]; exact hu 1 (by decide)
  · rw [show (99 : Int) = letter 2 from rfl, hl 2 (by decide)]; exact hu 2 (by decide)
  · rw [show (105 : Int) = letter 3 from rfl, hl 3 (by decide)]; exact hu 3 (by decide)
theorem decA_ne (x : Int) : (decA x != wrap64 (Go.bits .and .u64 (x / 256) 15)) = false := by unfold decA; simp
theorem decB_ne (x : Int) : (decB x != wrap64 (Go.bits .and .u64 (x / 4096) 15)) = false := by unfold decB; simp
theorem decC_ne (x : Int) : (decC x != wrap64 (Go.bits .and .u64 (x / 65536) 15)) = false := by unfold decC; simp
theorem InstFields_true (x : Int) (hx : 0 ≤ x ∧ x ≤ 18446744073709551615) (W : World) (ht : Tab W) :
    Calls Tryd.prog 5 #[.int .u64 x] W fun e w' => e = .returned (.bool true) ∧ Below W.heap.size W w' := by
  have hv := Decode_val x hx
  by_cases h : fitB (decOp x) (decA x) (decB x) (decC x) (decI x) = true ∧ encS (decOp x) (decA x) (decB x) (decC x) (decI x) = x
  · rw [if_pos h] at hv
    obtain ⟨hf, he⟩ := h
    obtain ⟨r0, r1, r2, r3, r4, r5, r6, r7⟩ := fitB_regs hf
    have hup := upper_zero _ _ _ _ _ _ he ⟨r0, r1⟩ ⟨r2, r3⟩ ⟨r4, r5⟩ ⟨r6, r7⟩
    have p6 := (dec_parts x hx).2.2.2.2.2
    have hm12 : (Go.bits .and .u64 (x / 1048576) 4095 != 0) = false := by
      rw [show (4095 : Int) = 2 ^ 12 - 1 from rfl, and_mask 12 (by decide) (x / 1048576) (by omega) (by omega), show (2 : Int) ^ 12 = 4096 from rfl, hup]
      rfl
    have h4 : (decI x % 4294967296 != x / 4294967296 % 4294967296) = false := by
      rw [bne_eq_false_iff_eq, p6]
      omega
    obtain ⟨u0, u1, u2, u3⟩ := fit_four hf ⟨r0, r1⟩ _ rfl
    exact InstFields_yes x _ _ _ _ _ hv awake_val W ht _ rfl (shape_letters (decOp x) ⟨r0, r1⟩ 0 (by decide)).2 (decOp_ne x) (decA_ne x) (decB_ne x) (decC_ne x) h4 hm12 _ rfl u0 u1 u2 u3 r1
  · rw [if_neg h] at hv
    exact InstFields_no x hv awake_val W ht
end Go.Proofs.YtnebgpegkihgdaaDoor.X
