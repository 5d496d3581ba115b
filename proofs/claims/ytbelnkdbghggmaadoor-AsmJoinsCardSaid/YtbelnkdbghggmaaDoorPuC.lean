/- Plain laws of asm.Put: what no error tells, and two programs one behind the other. -/
import Derived.Test.YtbelnkdbghggmaaDoorPuA
import Derived.Test.YtbelnkdbghggmaaDoorPa
import Derived.Test.YtbelnkdbghggmaaDoorLi
namespace Go.Proofs.YtbelnkdbghggmaaDoor.X
open Go.RowKit Go.Proofs.YtbelnkdbghggmaaDoorW.PrintWords
set_option linter.unusedVariables false
set_option linter.unusedSimpArgs false
def shift (c : Int) (p : Int × S28) : Int × S28 := (p.1 + c, p.2)
def shM (c : Int) (e : ByteArray × Int) : ByteArray × Int := (e.1, e.2 + c)
theorem placedL_shift (l : List S28) (a b : Nat) : placedL l (a + b) = (placedL l a).map (shift b) := by
  induction l generalizing a with
  | nil => rfl
  | cons x r ih =>
    simp only [placedL, List.map_cons, shift, Int.natCast_add]
    congr 1
    split
    · exact ih a
    · rw [← ih (a + 1)]; congr 1; omega
theorem hasL_append (k : ByteArray) : ∀ (a b : Marks), Mp.hasL k (a ++ b) = (Mp.hasL k a || Mp.hasL k b)
  | [], b => by simp [Mp.hasL]
  | (x, v) :: a, b => by
    simp only [List.cons_append, Mp.hasL]
    split
    · simp
    · exact hasL_append k a b
theorem getL_append (k : ByteArray) : ∀ (a b : Marks), Mp.getL k 0 (a ++ b) = if Mp.hasL k a = true then Mp.getL k 0 a else Mp.getL k 0 b
  | [], b => by simp [Mp.hasL]
  | (x, v) :: a, b => by
    simp only [List.cons_append, Mp.hasL, Mp.getL]
    split
    · simp
    · exact getL_append k a b
theorem hasL_shM (k : ByteArray) (c : Int) : ∀ m : Marks, Mp.hasL k (m.map (shM c)) = Mp.hasL k m
  | [] => rfl
  | (x, v) :: m => by
    simp only [List.map_cons, shM, Mp.hasL]
    split
    · rfl
    · exact hasL_shM k c m
theorem getL_shM (k : ByteArray) (c : Int) : ∀ m : Marks, Mp.hasL k m = true → Mp.getL k 0 (m.map (shM c)) = Mp.getL k 0 m + c
  | [], h => by simp [Mp.hasL] at h
  | (x, v) :: m, h => by
    simp only [Mp.hasL] at h
    simp only [List.map_cons, shM, Mp.getL]
    split
    · rfl
    · rename_i hx
      rw [if_neg hx] at h
      exact getL_shM k c m h
theorem putL_new (k : ByteArray) (v : Int) : ∀ m : Marks, Mp.hasL k m = false → Mp.putL k v m = m ++ [(k, v)]
  | [], _ => rfl
  | (x, u) :: m, h => by
    simp only [Mp.hasL] at h
    simp only [Mp.putL]
    split
    · rename_i hx; rw [if_pos hx] at h; cases h
    · rename_i hx
      rw [if_neg hx] at h
      rw [putL_new k v m h]
      rfl
theorem stepE_zero (m : Marks) (p : Int × S28) : stepE m p = 0 ↔ goodB p.2 = true ∧ (p.2.f0.toList = [] → p.1 ≠ 4096) ∧ (p.2.f0.toList ≠ [] → Mp.hasL p.2.f0 m = false) := by
  unfold stepE
  by_cases hg : goodB p.2 = true
  · by_cases hf : p.2.f0.toList = ([] : List UInt8)
    · by_cases h4 : p.1 = 4096 <;> simp [hg, hf, h4]
    · by_cases hh : Mp.hasL p.2.f0 m = true <;> simp [hg, hf, hh]
  · simp [hg]
theorem okL_shift (c : Int) (ma : Marks) : ∀ (l : List (Int × S28)) (m m' : Marks), okL l m = some m' → (∀ p ∈ l, p.2.f0.toList = [] → p.1 + c ≠ 4096) → (∀ p ∈ l, p.2.f0.toList ≠ [] → Mp.hasL p.2.f0 ma = false) →
    okL (l.map (shift c)) (ma ++ m.map (shM c)) = some (ma ++ m'.map (shM c))
  | [], m, m', h, _, _ => by cases h; rfl
  | p :: r, m, m', h, h4, hh => by
    simp only [okL] at h
    split at h
    · rename_i h0
      obtain ⟨hg, ha, hb⟩ := (stepE_zero m p).1 h0
      have hs : stepE (ma ++ m.map (shM c)) (shift c p) = 0 := (stepE_zero _ _).2 ⟨hg, fun e => h4 p List.mem_cons_self e, fun e => by
        show Mp.hasL p.2.f0 _ = false
        rw [hasL_append, hasL_shM, hh p List.mem_cons_self e, hb e]; rfl⟩
      have hm : stepM (ma ++ m.map (shM c)) (shift c p) = ma ++ (stepM m p).map (shM c) := by
        unfold stepM
        show (if p.2.f0.toList = ([] : List UInt8) then _ else _) = _
        by_cases e : p.2.f0.toList = ([] : List UInt8)
        · rw [if_pos e, if_pos e]
        · rw [if_neg e, if_neg e]
          show Mp.putL p.2.f0 (p.1 + c) _ = _
          rw [putL_new _ _ _ (by rw [hasL_append, hasL_shM, hh p List.mem_cons_self e, hb e]; rfl), putL_new _ _ _ (hb e)]
          simp [shM]
      simp only [List.map_cons, okL]
      rw [if_pos hs, hm]
      exact okL_shift c ma r _ _ h (fun q hq => h4 q (List.mem_cons_of_mem _ hq)) (fun q hq => hh q (List.mem_cons_of_mem _ hq))
    · cases h
theorem okL_marks : ∀ (l : List (Int × S28)) (m m' : Marks), okL l m = some m' → ∀ k, Mp.hasL k m' = true → Mp.hasL k m = true ∨ ∃ p ∈ l, p.2.f0 = k ∧ p.2.f0.toList ≠ []
  | [], m, m', h, k, hk => by cases h; exact .inl hk
  | p :: r, m, m', h, k, hk => by
    simp only [okL] at h
    split at h
    · rename_i h0
      obtain ⟨hg, ha, hb⟩ := (stepE_zero m p).1 h0
      rcases okL_marks r _ _ h k hk with hx | ⟨q, hq, e⟩
      · unfold stepM at hx
        by_cases e : p.2.f0.toList = ([] : List UInt8)
        · rw [if_pos e] at hx; exact .inl hx
        · rw [if_neg e, putL_new _ _ _ (hb e), hasL_append] at hx
          cases hm : Mp.hasL k m
          · rw [hm, Bool.false_or] at hx
            simp only [Mp.hasL] at hx
            split at hx
            · rename_i hkk; exact .inr ⟨p, List.mem_cons_self, hkk.symm, e⟩
            · cases hx
          · exact .inl rfl
      · exact .inr ⟨q, List.mem_cons_of_mem _ hq, e⟩
    · cases h
theorem lookR_zero : ∀ (l : List (Int × S28)) (i : Nat) (m : Marks), (lookR l i m).2.1 = 0 → okL l m = some (lookR l i m).2.2
  | [], i, m, h => rfl
  | p :: r, i, m, h => by
    simp only [lookR] at h ⊢
    simp only [okL]
    split
    · rename_i h0
      rw [if_pos h0] at h
      exact lookR_zero r _ _ h
    · rename_i h0
      rw [if_neg h0] at h
      exact absurd h h0
theorem putR_zero (m : Marks) : ∀ (l : List (Int × S28)) (i : Nat), (putR m l i).2 = 0 → ∀ p ∈ l, numE m p = 0
  | [], i, h, p, hp => by cases hp
  | q :: r, i, h, p, hp => by
    simp only [putR] at h
    split at h
    · rename_i h0
      rcases List.mem_cons.1 hp with rfl | hp
      · exact h0
      · exact putR_zero m r _ h p hp
    · rename_i h0
      exact absurd h h0
theorem asmPut_ok (l : List S28) (h : (asmPut l).2.2 = 0) : ∃ M, okL (placedL l 0) [] = some M ∧ (∀ p ∈ placedL l 0, numE M p = 0) ∧ asmPut l = (outL M (placedL l 0), 0, 0) := by
  unfold asmPut at h ⊢
  split at h
  · rename_i h1; exact absurd h h1
  · rename_i h1
    split at h
    · rename_i h2; exact absurd h h2
    · rename_i h2
      rw [if_neg h1, if_neg h2]
      exact ⟨_, lookR_zero _ 0 _ (Decidable.not_not.1 h1), putR_zero _ _ 0 (Decidable.not_not.1 h2), rfl⟩
theorem asmPut_of (l : List S28) (M : Marks) (h : okL (placedL l 0) [] = some M) (hn : ∀ p ∈ placedL l 0, numE M p = 0) : asmPut l = (outL M (placedL l 0), 0, 0) := by
  unfold asmPut
  rw [lookR_ok 0 h, putR_ok M 0 hn]
  simp
theorem asmPut_err (l : List S28) (h : (asmPut l).2.2 ≠ 0) : (asmPut l).1 = [] := by
  unfold asmPut at h ⊢
  split
  · rfl
  · rename_i h1
    rw [if_neg h1] at h
    split
    · rfl
    · rename_i h2
      rw [if_neg h2] at h
      exact absurd rfl h
theorem numE_same {m m' : Marks} {p : Int × S28} (h : numE m p = 0) (hm : ∀ k, Mp.hasL k m = true → Mp.hasL k m' = true ∧ Mp.getL k 0 m' = Mp.getL k 0 m) : numE m' p = 0 ∧ wordsP m' p = wordsP m p := by
  unfold numE at *
  unfold wordsP immP
  by_cases e0 : p.2.f0.toList = ([] : List UInt8)
  · simp only [if_pos e0] at *
    by_cases e2 : p.2.f2.toList = ([] : List UInt8)
    · simp only [if_pos e2] at *
      exact ⟨trivial, trivial⟩
    · simp only [if_neg e2] at *
      have : numR m' p.1 p.2 = numR m p.1 p.2 := by
        unfold numR at h ⊢
        by_cases hh : Mp.hasL p.2.f2 m = true
        · obtain ⟨h1, h2⟩ := hm _ hh
          unfold numN
          rw [h1, h2, hh]
        · rw [if_neg hh] at h; exact absurd h (by decide)
      rw [this]
      exact ⟨h, rfl⟩
  · simp only [if_neg e0] at *
    exact ⟨trivial, trivial⟩
theorem numE_shift {m m' : Marks} {p : Int × S28} {c : Int} (h : numE m p = 0) (h1 : p.2.f2.toList ≠ [] → p.2.f1.f0 ≠ 1) (hm : ∀ k, Mp.hasL k m = true → Mp.hasL k m' = true ∧ Mp.getL k 0 m' = Mp.getL k 0 m + c) : numE m' (shift c p) = 0 ∧ wordsP m' (shift c p) = wordsP m p := by
  unfold numE at *
  unfold wordsP immP
  show (if p.2.f0.toList = ([] : List UInt8) then (if p.2.f2.toList = ([] : List UInt8) then 0 else (numR m' (p.1 + c) p.2).2) else 0) = 0 ∧ (if p.2.f0.toList = ([] : List UInt8) then [encV p.2.f1.f0 p.2.f1.f1 p.2.f1.f2 p.2.f1.f3 (if p.2.f2.toList = ([] : List UInt8) then p.2.f1.f4 else (numR m' (p.1 + c) p.2).1)] else []) = _
  by_cases e0 : p.2.f0.toList = ([] : List UInt8)
  · simp only [if_pos e0] at *
    by_cases e2 : p.2.f2.toList = ([] : List UInt8)
    · simp only [if_pos e2] at *
      exact ⟨trivial, trivial⟩
    · simp only [if_neg e2] at *
      have : numR m' (p.1 + c) p.2 = numR m p.1 p.2 := by
        unfold numR at h ⊢
        by_cases hh : Mp.hasL p.2.f2 m = true
        · obtain ⟨h3, h2⟩ := hm _ hh
          unfold numN
          rw [h3, h2, hh, if_neg (h1 e2), if_neg (h1 e2)]
          rw [show Mp.getL p.2.f2 0 m + c - (p.1 + c) - 1 = Mp.getL p.2.f2 0 m - p.1 - 1 by omega]
        · rw [if_neg hh] at h; exact absurd h (by decide)
      rw [this]
      exact ⟨h, rfl⟩
  · simp only [if_neg e0] at *
    exact ⟨trivial, trivial⟩
theorem placed_mem2 {l : List S28} {k : Nat} {p : Int × S28} (h : p ∈ placedL l k) : p.2 ∈ l ∧ (k : Int) ≤ p.1 ∧ p.1 ≤ (k : Int) + l.length := by
  induction l generalizing k with
  | nil => cases h
  | cons x r ih =>
    simp only [placedL, List.mem_cons] at h
    rcases h with rfl | h
    · exact ⟨List.mem_cons_self, Int.le_refl _, by simp only [List.length_cons]; omega⟩
    · obtain ⟨h1, h2, h3⟩ := ih h
      refine ⟨List.mem_cons_of_mem _ h1, ?_, ?_⟩
      · split at h2 <;> omega
      · simp only [List.length_cons]; split at h3 <;> omega
theorem outL_congr {m m' : Marks} : ∀ (l : List (Int × S28)), (∀ p ∈ l, wordsP m' p = wordsP m p) → outL m' l = outL m l
  | [], _ => rfl
  | p :: r, h => by
    unfold outL
    rw [List.flatMap_cons, List.flatMap_cons, h p List.mem_cons_self]
    congr 1
    exact outL_congr r fun q hq => h q (List.mem_cons_of_mem _ hq)
theorem outL_shift {m m' : Marks} {c : Int} : ∀ (l : List (Int × S28)), (∀ p ∈ l, wordsP m' (shift c p) = wordsP m p) → outL m' (l.map (shift c)) = outL m l
  | [], _ => rfl
  | p :: r, h => by
    unfold outL
    rw [List.map_cons, List.flatMap_cons, List.flatMap_cons, h p List.mem_cons_self]
    congr 1
    exact outL_shift r fun q hq => h q (List.mem_cons_of_mem _ hq)
theorem joins (l m : List S28) (hl : l.length ≤ 60) (hm : m.length ≤ 60) (e1 : (asmPut l).2.2 = 0) (e2 : (asmPut m).2.2 = 0) (hd : ∀ x ∈ l, ∀ y ∈ m, x.f0.toList ≠ [] → x.f0.toList ≠ y.f0.toList) (hs : ∀ x ∈ l ++ m, x.f2.toList ≠ [] → x.f1.f0 ≠ 1) :
    asmPut (l ++ m) = ((asmPut l).1 ++ (asmPut m).1, 0, 0) := by
  obtain ⟨Ml, o1, n1, r1⟩ := asmPut_ok l e1
  obtain ⟨Mm, o2, n2, r2⟩ := asmPut_ok m e2
  have hc : (cnt l : Int) ≤ 60 := by have := cnt_le l; omega
  have hdm : ∀ p ∈ placedL m 0, p.2.f0.toList ≠ [] → Mp.hasL p.2.f0 Ml = false := fun p hp e => by
    cases hh : Mp.hasL p.2.f0 Ml
    · rfl
    · rcases okL_marks _ _ _ o1 _ hh with h | ⟨q, hq, h1, h2⟩
      · simp [Mp.hasL] at h
      · exact absurd (by rw [h1]) (hd _ (placed_mem2 hq).1 _ (placed_mem2 hp).1 h2)
  have o3 : okL (placedL (l ++ m) 0) [] = some (Ml ++ Mm.map (shM (cnt l))) := by
    rw [placedL_append, okL_append, o1, Option.bind_some, placedL_shift m 0 (cnt l)]
    have := okL_shift (cnt l) Ml (placedL m 0) [] Mm o2 (fun p hp _ => by have := (placed_mem2 hp).2.2; omega) hdm
    simpa using this
  have w1 : ∀ p ∈ placedL l 0, numE (Ml ++ Mm.map (shM (cnt l))) p = 0 ∧ wordsP (Ml ++ Mm.map (shM (cnt l))) p = wordsP Ml p := fun p hp =>
    numE_same (n1 p hp) fun k hk => ⟨by rw [hasL_append, hk]; rfl, by rw [getL_append, if_pos hk]⟩
  have w2 : ∀ p ∈ placedL m 0, numE (Ml ++ Mm.map (shM (cnt l))) (shift (cnt l) p) = 0 ∧ wordsP (Ml ++ Mm.map (shM (cnt l))) (shift (cnt l) p) = wordsP Mm p := fun p hp =>
    numE_shift (n2 p hp) (hs _ (List.mem_append_right _ (placed_mem2 hp).1)) fun k hk => by
      have hk2 : Mp.hasL k Ml = false := by
        rcases okL_marks _ _ _ o2 _ hk with h | ⟨q, hq, h1, h2⟩
        · simp [Mp.hasL] at h
        · rw [← h1]; exact hdm q hq h2
      refine ⟨by rw [hasL_append, hasL_shM, hk]; simp, ?_⟩
      rw [getL_append, hk2, if_neg (by decide), getL_shM _ _ _ hk]
  have e3 := placedL_append l m 0
  rw [placedL_shift m 0 (cnt l)] at e3
  rw [asmPut_of (l ++ m) _ o3 (fun p hp => by
    rw [e3] at hp
    rcases List.mem_append.1 hp with hp | hp
    · exact (w1 p hp).1
    · obtain ⟨q, hq, rfl⟩ := List.mem_map.1 hp
      exact (w2 q hq).1), r1, r2, e3]
  show (outL _ _, (0 : Int), (0 : Int)) = _
  congr 1
  show outL _ (placedL l 0 ++ (placedL m 0).map (shift (cnt l))) = outL Ml (placedL l 0) ++ outL Mm (placedL m 0)
  rw [show outL (Ml ++ Mm.map (shM (cnt l))) (placedL l 0 ++ (placedL m 0).map (shift (cnt l))) = outL (Ml ++ Mm.map (shM (cnt l))) (placedL l 0) ++ outL (Ml ++ Mm.map (shM (cnt l))) ((placedL m 0).map (shift (cnt l))) by simp [outL]]
  rw [outL_congr _ fun p hp => (w1 p hp).2, outL_shift _ fun p hp => (w2 p hp).2]
end Go.Proofs.YtbelnkdbghggmaaDoor.X
