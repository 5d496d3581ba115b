/- Plain laws of asm.Put: what no error tells, and two programs one behind the other. -/
import Derived.Test.YtbelnkdbghggmaaDoorPuA
import Derived.Test.YtbelnkdbghggmaaDoorPa
import Derived.Test.YtbelnkdbghggmaaDoorLi
namespace Go.Proofs.YtbelnkdbghggmaaDoor.X
open Go.RowKit Go.Proofs.YtbelnkdbghggmaaDoorW.PrintWords
set_option linter.unusedVariables false
set_option linter.unusedSimpArgs false
theorem hasL_append (k : ByteArray) : ∀ (a b : Marks), Mp.hasL k (a ++ b) = (Mp.hasL k a || Mp.hasL k b)
  | [], b => by simp [Mp.hasL]
  | (x, v) :: a, b => by
    simp only [List.cons_append, Mp.hasL]
    split
    · simp
    · exact hasL_append k a b
theorem getL_append (k : ByteArray) : ∀ (a b : Marks), Mp.getL k 0 (a ++ b) = if Mp.hasL k a = true then Mp.getL k 0 a else Mp.getL k 0 b
  | [], b => by simp [Mp.hasL]
  | (x, v) :: a, b => by
    simp only [List.cons_append, Mp.hasL, Mp.getL]
    split
    · simp
    · exact getL_append k a b
theorem putL_new (k : ByteArray) (v : Int) : ∀ m : Marks, Mp.hasL k m = false → Mp.putL k v m = m ++ [(k, v)]
  | [], _ => rfl
  | (x, u) :: m, h => by
    simp only [Mp.hasL] at h
    simp only [Mp.putL]
    split
    · rename_i hx; rw [if_pos hx] at h; cases h
    · rename_i hx
      rw [if_neg hx] at h
      rw [putL_new k v m h]
      rfl
theorem stepE_zero (m : Marks) (p : Int × S28) : stepE m p = 0 ↔ goodB p.2 = true ∧ (p.2.f0.toList = [] → p.1 ≠ 4096) ∧ (p.2.f0.toList ≠ [] → Mp.hasL p.2.f0 m = false) := by
  unfold stepE
  by_cases hg : goodB p.2 = true
  · by_cases hf : p.2.f0.toList = ([] : List UInt8)
    · by_cases h4 : p.1 = 4096 <;> simp [hg, hf, h4]
    · by_cases hh : Mp.hasL p.2.f0 m = true <;> simp [hg, hf, hh]
  · simp [hg]
theorem okL_marks : ∀ (l : List (Int × S28)) (m m' : Marks), okL l m = some m' → ∀ k, Mp.hasL k m' = true → Mp.hasL k m = true ∨ ∃ p ∈ l, p.2.f0 = k ∧ p.2.f0.toList ≠ []
  | [], m, m', h, k, hk => by cases h; exact .inl hk
  | p :: r, m, m', h, k, hk => by
    simp only [okL] at h
    split at h
    · rename_i h0
      obtain ⟨hg, ha, hb⟩ := (stepE_zero m p).1 h0
      rcases okL_marks r _ _ h k hk with hx | ⟨q, hq, e⟩
      · unfold stepM at hx
        by_cases e : p.2.f0.toList = ([] : List UInt8)
        · rw [if_pos e] at hx; exact .inl hx
        · rw [if_neg e, putL_new _ _ _ (hb e), hasL_append] at hx
          cases hm : Mp.hasL k m
          · rw [hm, Bool.false_or] at hx
            simp only [Mp.hasL] at hx
            split at hx
            · rename_i hkk; exact .inr ⟨p, List.mem_cons_self, hkk.symm, e⟩
            · cases hx
          · exact .inl rfl
      · exact .inr ⟨q, List.mem_cons_of_mem _ hq, e⟩
    · cases h
theorem okL_good : ∀ (l : List (Int × S28)) (m m' : Marks), okL l m = some m' → ∀ p ∈ l, goodB p.2 = true
  | [], m, m', h, p, hp => by cases hp
  | q :: r, m, m', h, p, hp => by
    simp only [okL] at h
    split at h
    · rename_i h0
      rcases List.mem_cons.1 hp with rfl | hp
      · exact ((stepE_zero m p).1 h0).1
      · exact okL_good r _ _ h p hp
    · cases h
theorem lookR_zero : ∀ (l : List (Int × S28)) (i : Nat) (m : Marks), (lookR l i m).2.1 = 0 → okL l m = some (lookR l i m).2.2
  | [], i, m, h => rfl
  | p :: r, i, m, h => by
    simp only [lookR] at h ⊢
    simp only [okL]
    split
    · rename_i h0
      rw [if_pos h0] at h
      exact lookR_zero r _ _ h
    · rename_i h0
      rw [if_neg h0] at h
      exact absurd h h0
theorem putR_zero (m : Marks) : ∀ (l : List (Int × S28)) (i : Nat), (putR m l i).2 = 0 → ∀ p ∈ l, numE m p = 0
  | [], i, h, p, hp => by cases hp
  | q :: r, i, h, p, hp => by
    simp only [putR] at h
    split at h
    · rename_i h0
      rcases List.mem_cons.1 hp with rfl | hp
      · exact h0
      · exact putR_zero m r _ h p hp
    · rename_i h0
      exact absurd h h0
theorem asmPut_ok (l : List S28) (h : (asmPut l).2.2 = 0) : ∃ M, okL (placedL l 0) [] = some M ∧ (∀ p ∈ placedL l 0, numE M p = 0) ∧ asmPut l = (outL M (placedL l 0), 0, 0) := by
  unfold asmPut at h ⊢
  split at h
  · rename_i h1; exact absurd h h1
  · rename_i h1
    split at h
    · rename_i h2; exact absurd h h2
    · rename_i h2
      rw [if_neg h1, if_neg h2]
      exact ⟨_, lookR_zero _ 0 _ (Decidable.not_not.1 h1), putR_zero _ _ 0 (Decidable.not_not.1 h2), rfl⟩
theorem asmPut_err (l : List S28) (h : (asmPut l).2.2 ≠ 0) : (asmPut l).1 = [] := by
  unfold asmPut at h ⊢
  split
  · rfl
  · rename_i h1
    rw [if_neg h1] at h
    split
    · rfl
    · rename_i h2
      rw [if_neg h2] at h
      exact absurd rfl h
theorem bytes_inj {a b : ByteArray} (h : a.toList = b.toList) : a = b := by
  rw [ByteArray.toList_eq, ByteArray.toList_eq] at h
  cases a; cases b
  congr 1
  exact Array.ext' h
theorem placed_mem2 {l : List S28} {k : Nat} {p : Int × S28} (h : p ∈ placedL l k) : p.2 ∈ l ∧ (k : Int) ≤ p.1 ∧ p.1 ≤ (k : Int) + l.length := by
  induction l generalizing k with
  | nil => cases h
  | cons x r ih =>
    simp only [placedL, List.mem_cons] at h
    rcases h with rfl | h
    · exact ⟨List.mem_cons_self, Int.le_refl _, by simp only [List.length_cons]; omega⟩
    · obtain ⟨h1, h2, h3⟩ := ih h
      refine ⟨List.mem_cons_of_mem _ h1, ?_, ?_⟩
      · split at h2 <;> omega
      · simp only [List.length_cons]; split at h3 <;> omega
end Go.Proofs.YtbelnkdbghggmaaDoor.X
