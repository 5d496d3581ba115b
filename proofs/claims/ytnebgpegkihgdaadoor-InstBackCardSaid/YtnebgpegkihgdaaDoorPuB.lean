/- Plain laws: the reference's shapes, fits, digits and texts are the program's. -/
import Derived.Test.YtnebgpegkihgdaaDoorPuA
namespace Go.Proofs.YtnebgpegkihgdaaDoor.X
open Go.RowKit Go.Proofs.YtnebgpegkihgdaaDoorW.PrintWords
set_option linter.unusedVariables false
set_option linter.unusedSimpArgs false
theorem rShape10 (op : Int) : curtilageref08_Shape.f 10 op = some (shapeOf op) := by
  by_cases h : 0 ≤ op ∧ op < 26
  · obtain ⟨n, rfl⟩ : ∃ n : Nat, op = (n : Int) := ⟨op.toNat, by omega⟩
    have key : ∀ n : Fin 26, curtilageref08_Shape.f 10 (n.1 : Int) = some (shapeOf (n.1 : Int)) := by decide +kernel
    exact key ⟨n, by omega⟩
  · have hs : shapeOf op = ByteArray.empty := by unfold shapeOf; rw [if_neg h]
    have ne : ∀ k : Int, 0 ≤ k → k < 26 → (op == k) = false ∧ ¬ op = k := fun k h0 h1 => by
      have : ¬ op = k := by omega
      exact ⟨by simp [this], this⟩
    rw [hs]
    simp only [curtilageref08_Shape.f, curtilageref08_Shape.j0, curtilageref08_Shape.j1, curtilageref08_Shape.j2, (ne 1 (by decide) (by decide)).1, (ne 1 (by decide) (by decide)).2, (ne 2 (by decide) (by decide)).1, (ne 2 (by decide) (by decide)).2, (ne 3 (by decide) (by decide)).2, (ne 4 (by decide) (by decide)).2, (ne 5 (by decide) (by decide)).2, (ne 6 (by decide) (by decide)).2, (ne 7 (by decide) (by decide)).2, (ne 8 (by decide) (by decide)).2, (ne 9 (by decide) (by decide)).2, (ne 10 (by decide) (by decide)).2, (ne 11 (by decide) (by decide)).2, (ne 12 (by decide) (by decide)).2, (ne 13 (by decide) (by decide)).2, (ne 14 (by decide) (by decide)).1, (ne 14 (by decide) (by decide)).2, (ne 15 (by decide) (by decide)).2, (ne 16 (by decide) (by decide)).2, (ne 17 (by decide) (by decide)).2, (ne 18 (by decide) (by decide)).1, (ne 18 (by decide) (by decide)).2, (ne 19 (by decide) (by decide)).1, (ne 19 (by decide) (by decide)).2, (ne 20 (by decide) (by decide)).1, (ne 20 (by decide) (by decide)).2, (ne 21 (by decide) (by decide)).1, (ne 22 (by decide) (by decide)).2, (ne 23 (by decide) (by decide)).1, (ne 23 (by decide) (by decide)).2, (ne 24 (by decide) (by decide)).1, (ne 25 (by decide) (by decide)).1, if_false, Bool.false_eq_true]
    rfl
theorem rUses10 (n : Nat) (hn : n < 26) (k : Nat) (hk : k < 4) : curtilageref08_uses.f 10 (n : Int) (letter k) = some (uses (n : Int) k) := by
  have key : ∀ (n : Fin 26) (k : Fin 4), curtilageref08_uses.f 10 (n.1 : Int) (letter k.1) = some (uses (n.1 : Int) k.1) := by decide +kernel
  exact key ⟨n, hn⟩ ⟨k, hk⟩
theorem rReg (a : Int) (u : Bool) : curtilageref08_register.f a u = some (!((!u && (a != 0)) || (decide (a < 0) || decide (a ≥ 16)))) := by
  unfold curtilageref08_register.f
  by_cases h0 : a = 0
  · subst h0; cases u <;> rfl
  · rw [if_neg h0]
    have h1 : (a != 0) = true := by simp [h0]
    cases u
    · rw [if_neg (by decide), h1]; rfl
    · rw [if_pos rfl]
      by_cases h2 : a > 0
      · rw [if_pos h2, decide_eq_false (show ¬ a < 0 by omega)]
        simp
        by_cases h3 : a < 16
        · simp [h3]
        · simp [h3]; omega
      · rw [if_neg h2, decide_eq_true (show a < 0 by omega)]
        simp
theorem rFit10 (op a b c e : Int) : curtilageref08_Fit.f 10 op a b c e = some (fitB op a b c e) := by
  unfold curtilageref08_Fit.f fitB
  by_cases h0 : op ≥ 0
  · rw [if_pos h0]
    by_cases h1 : op < 26
    · rw [if_pos h1, decide_eq_true (And.intro h0 h1), Bool.true_and, fitP_iff]
      obtain ⟨n, rfl⟩ : ∃ n : Nat, op = (n : Int) := ⟨op.toNat, by omega⟩
      have hu := fun k hk => rUses10 n (by omega) k hk
      have b0 : bad (n : Int) a b c e 0 = ((!(uses n 0) && (a != 0)) || (decide (a < 0) || decide (a ≥ 16))) := rfl
      have b1 : bad (n : Int) a b c e 1 = ((!(uses n 1) && (b != 0)) || (decide (b < 0) || decide (b ≥ 16))) := rfl
      have b2 : bad (n : Int) a b c e 2 = ((!(uses n 2) && (c != 0)) || (decide (c < 0) || decide (c ≥ 16))) := rfl
      have b3 : bad (n : Int) a b c e 3 = (!(uses n 3) && (e != 0)) := by unfold bad num letter; simp
      rw [show (97 : Int) = letter 0 from rfl, hu 0 (by decide), show (98 : Int) = letter 1 from rfl, hu 1 (by decide), show (99 : Int) = letter 2 from rfl, hu 2 (by decide), show (105 : Int) = letter 3 from rfl, hu 3 (by decide)]
      simp only [Option.bind_some, rReg]
      rw [← b0, ← b1, ← b2, b3]
      cases bad (n : Int) a b c e 0 <;> cases bad (n : Int) a b c e 1 <;> cases bad (n : Int) a b c e 2 <;> cases uses (n : Int) 3 <;> by_cases he : e = 0 <;> simp [he]
    · rw [if_neg h1, decide_eq_false (by omega)]; rfl
  · rw [if_neg h0, decide_eq_false (by omega)]; rfl
theorem rShape (K : Nat) (hK : 10 ≤ K) (op : Int) : curtilageref08_Shape.f K op = some (shapeOf op) := at_rounds (curtilageref08_Shape.mono op) hK (rShape10 op)
theorem rUses (K : Nat) (hK : 10 ≤ K) (n : Nat) (hn : n < 26) (k : Nat) (hk : k < 4) : curtilageref08_uses.f K (n : Int) (letter k) = some (uses (n : Int) k) := at_rounds (curtilageref08_uses.mono _ _) hK (rUses10 n hn k hk)
theorem rFit (K : Nat) (hK : 10 ≤ K) (op a b c e : Int) : curtilageref08_Fit.f K op a b c e = some (fitB op a b c e) := at_rounds (curtilageref08_Fit.mono _ _ _ _ _) hK (rFit10 op a b c e)
end Go.Proofs.YtnebgpegkihgdaaDoor.X
