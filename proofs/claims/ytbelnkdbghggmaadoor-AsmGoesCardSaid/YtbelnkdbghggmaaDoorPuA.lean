/- Plain laws: what the words of instructions come to, in numbers. -/
import Derived.Test.YtbelnkdbghggmaaDoorIh
import Derived.Test.YtbelnkdbghggmaaDoorIj
import Derived.Laws.BitsLemmas
namespace Go.Proofs.YtbelnkdbghggmaaDoor.X
open Go.RowKit Go.Proofs.YtbelnkdbghggmaaDoorW.PrintWords
set_option linter.unusedVariables false
set_option linter.unusedSimpArgs false
theorem i32_bd {n : Int} (h : (Lit.int .i32 n).wf = true) : -2147483648 ≤ n ∧ n ≤ 2147483647 := by
  simp only [Lit.wf, Bool.and_eq_true, decide_eq_true_eq] at h
  exact h
theorem and_mask (i : Nat) (hi : i ≤ 64) (x : Int) (h0 : 0 ≤ x) (h1 : x < 18446744073709551616) : Go.bits .and .u64 x (2 ^ i - 1) = x % 2 ^ i :=
  bits_mask .u64 64 (by decide) (fun n a b => by rw [IntKind.wrap_u64]; omega) i hi x h0 (by simpa using h1)
theorem or_join (i : Nat) (x y : Int) (hx0 : 0 ≤ x) (hx : x % 2 ^ i = 0) (hx1 : x < 18446744073709551616) (hy0 : 0 ≤ y) (hy : y < 2 ^ i) (hy1 : y < 18446744073709551616) : Go.bits .or .u64 x y = x + y :=
  bits_join .u64 64 (by decide) (fun n a b => by rw [IntKind.wrap_u64]; omega) i x y hx0 hx (by simpa using hx1) hy0 hy (by simpa using hy1)
theorem or_comm (x y : Int) : Go.bits .or .u64 x y = Go.bits .or .u64 y x := by
  unfold Go.bits
  simp only [BitVec.or_comm]
theorem fitP_iff (op a b c e : Int) : fitP op a b c e = (!(bad op a b c e 0) && !(bad op a b c e 1) && !(bad op a b c e 2) && !(bad op a b c e 3)) := by
  unfold fitP
  rw [show List.range 4 = [0, 1, 2, 3] from rfl]
  simp [Bool.and_assoc]
theorem fitB_regs {op a b c e : Int} (h : fitB op a b c e = true) : 0 ≤ op ∧ op < 26 ∧ 0 ≤ a ∧ a < 16 ∧ 0 ≤ b ∧ b < 16 ∧ 0 ≤ c ∧ c < 16 := by
  unfold fitB at h
  rw [Bool.and_eq_true, decide_eq_true_eq, fitP_iff] at h
  obtain ⟨h0, h1⟩ := h
  simp [bad, num, letter] at h1
  omega
/-- A fit instruction's word, as a sum. -/
def encS (op a b c e : Int) : Int := op + 256 * a + 4096 * b + 65536 * c + 4294967296 * (e % 4294967296)
theorem enc_sum (op a b c e : Int) (ho : 0 ≤ op ∧ op < 26) (ha : 0 ≤ a ∧ a < 16) (hb : 0 ≤ b ∧ b < 16) (hc : 0 ≤ c ∧ c < 16) :
    Go.bits .or .u64 (Go.bits .or .u64 (IntKind.u64.wrap op) (IntKind.u64.wrap ((Go.bits .or .u64 (Go.bits .or .u64 (IntKind.u64.wrap a) (IntKind.u64.wrap ((IntKind.u64.wrap b) * 16))) (IntKind.u64.wrap ((IntKind.u64.wrap c) * 256))) * 256))) ((e % 4294967296) * 4294967296) = encS op a b c e := by
  have w : ∀ n : Int, 0 ≤ n → n < 18446744073709551616 → IntKind.u64.wrap n = n := fun n h0 h1 => by rw [IntKind.wrap_u64]; omega
  rw [w op (by omega) (by omega), w a (by omega) (by omega), w b (by omega) (by omega), w c (by omega) (by omega), w (b * 16) (by omega) (by omega), w (c * 256) (by omega) (by omega)]
  rw [or_comm a, or_join 4 (b * 16) a (by omega) (by omega) (by omega) (by omega) (by omega) (by omega)]
  rw [or_comm (b * 16 + a), or_join 8 (c * 256) (b * 16 + a) (by omega) (by omega) (by omega) (by omega) (by omega) (by omega)]
  rw [w _ (by omega) (by omega), or_comm op, or_join 8 ((c * 256 + (b * 16 + a)) * 256) op (by omega) (by omega) (by omega) (by omega) (by omega) (by omega)]
  rw [or_comm, or_join 32 (e % 4294967296 * 4294967296) _ (by omega) (by omega) (by omega) (by omega) (by omega) (by omega)]
  unfold encS
  omega
theorem Fit_val (op a b c e : Int) (he : -2147483648 ≤ e ∧ e ≤ 2147483647) : inst_Fit.f op a b c e = some (fitB op a b c e) := by
  unfold inst_Fit.f
  rw [if_pos he]
theorem Encode_val (op a b c e : Int) (he : -2147483648 ≤ e ∧ e ≤ 2147483647) : inst_Encode.f op a b c e = some (if fitB op a b c e = true then encS op a b c e else 0) := by
  unfold inst_Encode.f
  rw [Fit_val _ _ _ _ _ he]
  simp only [Option.bind_some]
  by_cases h : fitB op a b c e = true
  · obtain ⟨h0, h1, h2, h3, h4, h5, h6, h7⟩ := fitB_regs h
    rw [if_pos h, if_pos h, enc_sum op a b c e ⟨h0, h1⟩ ⟨h2, h3⟩ ⟨h4, h5⟩ ⟨h6, h7⟩]
  · rw [if_neg h, if_neg h]
theorem dec_parts (x : Int) (hx : 0 ≤ x ∧ x ≤ 18446744073709551615) : decOp x = x % 256 ∧ decA x = x / 256 % 16 ∧ decB x = x / 4096 % 16 ∧ decC x = x / 65536 % 16 ∧ (-2147483648 ≤ decI x ∧ decI x ≤ 2147483647) ∧ decI x % 4294967296 = x / 4294967296 := by
  have m8 := and_mask 8 (by decide) x hx.1 (by omega)
  have m4 := fun y (h0 : 0 ≤ y) h1 => and_mask 4 (by decide) y h0 h1
  have i64 : ∀ n : Int, 0 ≤ n → n < 256 → IntKind.i64.wrap n = n := fun n h0 h1 => by rw [IntKind.wrap_i64]; omega
  have w64 : ∀ n : Int, 0 ≤ n → n < 256 → wrap64 n = n := fun n h0 h1 => by unfold wrap64; omega
  unfold decOp decA decB decC decI
  refine ⟨?_, ?_, ?_, ?_, ?_, ?_⟩
  · rw [show (255 : Int) = 2 ^ 8 - 1 from rfl, m8]; exact i64 _ (by omega) (by omega)
  · rw [show (15 : Int) = 2 ^ 4 - 1 from rfl, m4 _ (by omega) (by omega)]; exact w64 _ (by omega) (by omega)
  · rw [show (15 : Int) = 2 ^ 4 - 1 from rfl, m4 _ (by omega) (by omega)]; exact w64 _ (by omega) (by omega)
  · rw [show (15 : Int) = 2 ^ 4 - 1 from rfl, m4 _ (by omega) (by omega)]; exact w64 _ (by omega) (by omega)
  · rw [IntKind.wrap_i32]; omega
  · rw [IntKind.wrap_i32]; omega
/-- A fit instruction's word is read as it. -/
theorem dec_enc (op a b c e : Int) (h : fitB op a b c e = true) (he : -2147483648 ≤ e ∧ e ≤ 2147483647) :
    (0 ≤ encS op a b c e ∧ encS op a b c e ≤ 18446744073709551615) ∧ decOp (encS op a b c e) = op ∧ decA (encS op a b c e) = a ∧ decB (encS op a b c e) = b ∧ decC (encS op a b c e) = c ∧ decI (encS op a b c e) = e := by
  obtain ⟨h0, h1, h2, h3, h4, h5, h6, h7⟩ := fitB_regs h
  have hx : 0 ≤ encS op a b c e ∧ encS op a b c e ≤ 18446744073709551615 := by unfold encS; omega
  obtain ⟨e1, e2, e3, e4, e5, e6⟩ := dec_parts _ hx
  refine ⟨hx, ?_, ?_, ?_, ?_, ?_⟩
  · rw [e1]; unfold encS; omega
  · rw [e2]; unfold encS; omega
  · rw [e3]; unfold encS; omega
  · rw [e4]; unfold encS; omega
  · have : encS op a b c e / 4294967296 = e % 4294967296 := by unfold encS; omega
    rw [this] at e6
    omega
theorem Decode_val (x : Int) (hx : 0 ≤ x ∧ x ≤ 18446744073709551615) : inst_Decode.f x = if fitB (decOp x) (decA x) (decB x) (decC x) (decI x) = true ∧ encS (decOp x) (decA x) (decB x) (decC x) (decI x) = x then some (decOp x, decA x, decB x, decC x, decI x, true) else some (0, 0, 0, 0, 0, false) := by
  have he := (dec_parts x hx).2.2.2.2.1
  unfold inst_Decode.f
  rw [Fit_val _ _ _ _ _ he]
  simp only [Option.bind_some]
  by_cases h : fitB (decOp x) (decA x) (decB x) (decC x) (decI x) = true
  · rw [if_pos h, Encode_val _ _ _ _ _ he, if_pos h]
    simp only [Option.bind_some]
    by_cases h2 : encS (decOp x) (decA x) (decB x) (decC x) (decI x) = x
    · rw [if_pos h2, if_pos ⟨h, h2⟩]
    · rw [if_neg h2, if_neg (fun k => h2 k.2)]
  · rw [if_neg h, if_neg (fun k => h k.1)]
end Go.Proofs.YtbelnkdbghggmaaDoor.X
