/- Plain laws: the reference's shapes, fits, digits and texts are the program's. -/
import Derived.Test.YtbelnkdbghggmaaDoorPuA
import Derived.Test.YtbelnkdbghggmaaDoorXx6
namespace Go.Proofs.YtbelnkdbghggmaaDoor.X
open Go.RowKit Go.Proofs.YtbelnkdbghggmaaDoorW.PrintWords
set_option linter.unusedVariables false
set_option linter.unusedSimpArgs false
theorem rUses10 (n : Nat) (hn : n < 26) (k : Nat) (hk : k < 4) : curtilageref08_uses.f 10 (n : Int) (letter k) = some (uses (n : Int) k) := by
  have key : ∀ (n : Fin 26) (k : Fin 4), curtilageref08_uses.f 10 (n.1 : Int) (letter k.1) = some (uses (n.1 : Int) k.1) := by decide +kernel
  exact key ⟨n, hn⟩ ⟨k, hk⟩
theorem rReg (a : Int) (u : Bool) : curtilageref08_register.f a u = some (!((!u && (a != 0)) || (decide (a < 0) || decide (a ≥ 16)))) := by
  unfold curtilageref08_register.f
  by_cases h0 : a = 0
  · subst h0; cases u <;> rfl
  · rw [if_neg h0]
    have h1 : (a != 0) = true := by simp [h0]
    cases u
    · rw [if_neg (by decide), h1]; rfl
    · rw [if_pos rfl]
      by_cases h2 : a > 0
      · rw [if_pos h2, decide_eq_false (show ¬ a < 0 by omega)]
        simp
        by_cases h3 : a < 16
        · simp [h3]
        · simp [h3]; omega
      · rw [if_neg h2, decide_eq_true (show a < 0 by omega)]
        simp
theorem rFit10 (op a b c e : Int) : curtilageref08_Fit.f 10 op a b c e = some (fitB op a b c e) := by
  unfold curtilageref08_Fit.f fitB
  by_cases h0 : op ≥ 0
  · rw [if_pos h0]
    by_cases h1 : op < 26
    · rw [if_pos h1, decide_eq_true (And.intro h0 h1), Bool.true_and, fitP_iff]
      obtain ⟨n, rfl⟩ : ∃ n : Nat, op = (n : Int) := ⟨op.toNat, by omega⟩
      have hu := fun k hk => rUses10 n (by omega) k hk
      have b0 : bad (n : Int) a b c e 0 = ((!(uses n 0) && (a != 0)) || (decide (a < 0) || decide (a ≥ 16))) := rfl
      have b1 : bad (n : Int) a b c e 1 = ((!(uses n 1) && (b != 0)) || (decide (b < 0) || decide (b ≥ 16))) := rfl
      have b2 : bad (n : Int) a b c e 2 = ((!(uses n 2) && (c != 0)) || (decide (c < 0) || decide (c ≥ 16))) := rfl
      have b3 : bad (n : Int) a b c e 3 = (!(uses n 3) && (e != 0)) := by unfold bad num letter; simp
      rw [show (97 : Int) = letter 0 from rfl, hu 0 (by decide), show (98 : Int) = letter 1 from rfl, hu 1 (by decide), show (99 : Int) = letter 2 from rfl, hu 2 (by decide), show (105 : Int) = letter 3 from rfl, hu 3 (by decide)]
      simp only [Option.bind_some, rReg]
      rw [← b0, ← b1, ← b2, b3]
      cases bad (n : Int) a b c e 0 <;> cases bad (n : Int) a b c e 1 <;> cases bad (n : Int) a b c e 2 <;> cases uses (n : Int) 3 <;> by_cases he : e = 0 <;> simp [he]
    · rw [if_neg h1, decide_eq_false (by omega)]; rfl
  · rw [if_neg h0, decide_eq_false (by omega)]; rfl
theorem rFit (K : Nat) (hK : 10 ≤ K) (op a b c e : Int) : curtilageref08_Fit.f K op a b c e = some (fitB op a b c e) := at_rounds (curtilageref08_Fit.mono _ _ _ _ _) hK (rFit10 op a b c e)
theorem enc_iff (x op a b c e : Int) (hx : 0 ≤ x ∧ x ≤ 18446744073709551615) (h1 : op = x % 256) (h2 : a = x / 256 % 16) (h3 : b = x / 4096 % 16) (h4 : c = x / 65536 % 16) (h5 : e % 4294967296 = x / 4294967296) : encS op a b c e = x ↔ x / 1048576 % 4096 = 0 := by
  unfold encS
  rw [h5, h1, h2, h3, h4]
  clear h1 h2 h3 h4 h5
  omega
theorem rDecode (K : Nat) (hK : 10 ≤ K) (x : Int) (hx : 0 ≤ x ∧ x ≤ 18446744073709551615) : curtilageref08_Decode.f K x = inst_Decode.f x := by
  rw [Decode_val x hx]
  obtain ⟨p1, p2, p3, p4, p5, p6⟩ := dec_parts x hx
  have hi := enc_iff x (decOp x) (decA x) (decB x) (decC x) (decI x) hx p1 p2 p3 p4 p6
  unfold curtilageref08_Decode.f
  rw [show (4095 : Int) = 2 ^ 12 - 1 from rfl, and_mask 12 (by decide) (x / 1048576) (by omega) (by omega), show (2 : Int) ^ 12 = 4096 from rfl, rFit K hK]
  have e0 : wrap64 (Go.bits .and .u64 x 255) = decOp x := by
    unfold decOp
    generalize Go.bits .and .u64 x 255 = y
    rw [IntKind.wrap_i64]
    unfold wrap64
    rfl
  have e4 : wrap32 (x / 4294967296 % 4294967296) = decI x := by
    unfold decI
    rw [IntKind.wrap_i32]
    unfold wrap32
    omega
  rw [e0, e4, show wrap64 (Go.bits .and .u64 (x / 256) 15) = decA x from rfl, show wrap64 (Go.bits .and .u64 (x / 4096) 15) = decB x from rfl, show wrap64 (Go.bits .and .u64 (x / 65536) 15) = decC x from rfl]
  simp only [Option.bind_some]
  by_cases hu : x / 1048576 % 4096 = 0
  · rw [if_pos hu]
    by_cases hf : fitB (decOp x) (decA x) (decB x) (decC x) (decI x) = true
    · rw [if_pos hf, if_pos ⟨hf, hi.2 hu⟩]
    · rw [if_neg hf, if_neg (fun k => hf k.1)]
  · rw [if_neg hu, if_neg (fun k => hu (hi.1 k.2))]
end Go.Proofs.YtbelnkdbghggmaaDoor.X
