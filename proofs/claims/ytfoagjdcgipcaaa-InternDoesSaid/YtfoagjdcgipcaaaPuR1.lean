/- Plain laws: few labels, the reference's Find and Fit over lists. -/
import Derived.Test.YtfoagjdcgipcaaaPuR0
import Derived.Test.YtfoagjdcgipcaaaXx8
namespace Go.Proofs.Ytfoagjdcgipcaaa.X
open Go.RowKit Go.Proofs.YtfoagjdcgipcaaaW.PrintWords Go.Proofs.YtfoagjdcgipcaaaW.PrintLast
set_option linter.unusedVariables false
set_option linter.unusedSimpArgs false
namespace Tb
/-- few: few labels, each of few pairs. -/
def fewB (l0 : List (List S57)) (l1 : List Int) : Bool := decide (l0.length ≤ 70) && decide (l1.length ≤ 70) && l0.all (fun l => decide (l.length ≤ 20))
theorem few_go (l0 : List (List S57)) (hm : l0.length ≤ 70) (d : Nat) : ∀ (k i : Nat), i ≤ l0.length → l0.length - i = d → d + 1 ≤ k → curtilagelaw05_few.l0 k l0 (l0.length : Int) (i : Int) = some ((l0.drop i).all (fun l => decide (l.length ≤ 20))) := by
  induction d with
  | zero =>
    intro k i h1 h2 hk
    obtain ⟨k, rfl⟩ : ∃ m, k = m + 1 := ⟨k - 1, by omega⟩
    obtain rfl : i = l0.length := by omega
    rw [curtilagelaw05_few.l0, if_neg (by omega), List.drop_length]
    rfl
  | succ d ih =>
    intro k i h1 h2 hk
    obtain ⟨k, rfl⟩ : ∃ m, k = m + 1 := ⟨k - 1, by omega⟩
    have hi : i < l0.length := by omega
    rw [curtilagelaw05_few.l0, if_pos (by omega), if_pos (by omega), if_pos (by omega), wrap_nat i (by omega), rdL_at l0 i hi, ih k (i + 1) (by omega) (by omega) (by omega), List.drop_eq_getElem_cons hi, List.all_cons]
    by_cases h : (l0[i].length : Int) > 20
    · rw [if_pos h, decide_eq_false (by omega)]; rfl
    · rw [if_neg h, decide_eq_true (by omega : l0[i].length ≤ 20)]; rfl
theorem few_eq (l0 : List (List S57)) (l1 : List Int) (k : Nat) (hk : 1001 ≤ k) : curtilagelaw05_few.f k l0 l1 = some (fewB l0 l1) := by
  obtain ⟨k, rfl⟩ : ∃ m, k = m + 1 := ⟨k - 1, by omega⟩
  unfold curtilagelaw05_few.f fewB
  by_cases h0 : (l0.length : Int) > 70
  · rw [if_pos h0, curtilagelaw05_few.j0, if_pos rfl, decide_eq_false (by omega : ¬ l0.length ≤ 70)]; rfl
  · rw [if_neg h0, curtilagelaw05_few.j0, decide_eq_true (by omega : l0.length ≤ 70)]
    by_cases h1 : (l1.length : Int) > 70
    · rw [if_pos (by simpa using h1), decide_eq_false (by omega : ¬ l1.length ≤ 70)]; rfl
    · rw [if_neg (by simpa using h1), decide_eq_true (by omega : l1.length ≤ 70)]
      exact few_go l0 (by omega) l0.length k 0 (by omega) (by omega) (by omega)
theorem rFind_eq (l0 : List (List S57)) (l1 : List Int) (l : List S57) (hm0 : l0.length ≤ 70) (hm1 : l1.length ≤ 70) (hs : ∀ i : Nat, (rd_L3 l0 (i : Int)).length ≤ 1000) (d : Nat) : ∀ (k i : Nat), i ≤ both l0 l1 → both l0 l1 - i = d → 2 * d + 1010 ≤ k →
    curtilageref05_Find.l0 k l (i : Int) l0 l1 = some (findIn l0 l (live ((l1.take (both l0 l1)).drop i) i)) := by
  have hb0 : both l0 l1 ≤ l0.length := Nat.min_le_left _ _
  have hb1 : both l0 l1 ≤ l1.length := Nat.min_le_right _ _
  induction d with
  | zero =>
    intro k i h1 h2 hk
    obtain ⟨k, rfl⟩ : ∃ m, k = m + 1 + 1 := ⟨k - 2, by omega⟩
    have hi : i = both l0 l1 := by omega
    have hd : (l1.take (both l0 l1)).drop i = [] := List.drop_eq_nil_of_le (by simp; omega)
    rw [hd, curtilageref05_Find.l0]
    by_cases h : (i : Int) < (l0.length : Int)
    · have hn : ¬ (i : Int) < (l1.length : Int) := by unfold both at hi; omega
      rw [if_pos h, curtilageref05_Find.j1, if_neg (by simpa using hn)]
      rfl
    · rw [if_neg h, curtilageref05_Find.j1, if_neg (by simp)]
      rfl
  | succ d ih =>
    intro k i h1 h2 hk
    obtain ⟨k, rfl⟩ : ∃ m, k = m + 1 + 1 := ⟨k - 2, by omega⟩
    have hi0 : i < l0.length := by omega
    have hi1 : i < l1.length := by omega
    have hlt : i < (l1.take (both l0 l1)).length := by simp; omega
    have hr := ih k (i + 1) (by omega) (by omega) (by omega)
    have hc : rd l1 (i : Int) = l1[i] := by simp [rd, List.getD_eq_getElem?_getD, hi1]
    rw [curtilageref05_Find.l0, if_pos (by omega), curtilageref05_Find.j1, if_pos (by simpa using hi1), if_pos (by omega), if_pos (by omega), wrap_nat i (by omega), hr, rSame _ _ (hs i) k (by omega), List.drop_eq_getElem_cons hlt, List.getElem_take, hc]
    simp only [live]
    by_cases h0 : l1[i] = 0
    · rw [if_pos h0, if_neg (by simpa using h0)]
    · rw [if_neg h0, if_pos (by omega : (i : Int) < (l0.length : Int)), if_pos (show (l1[i] != 0) = true by simpa using h0), findIn]
      by_cases he : rd_L3 l0 (i : Int) = l
      · rw [if_pos he]; simp [he]
      · rw [if_neg he]; simp [he]
theorem rFind (l0 : List (List S57)) (l1 : List Int) (l : List S57) (hm0 : l0.length ≤ 70) (hm1 : l1.length ≤ 70) (hs : ∀ i : Nat, (rd_L3 l0 (i : Int)).length ≤ 1000) (k : Nat) (hk : 1200 ≤ k) : curtilageref05_Find.f k l0 l1 l = some (F l0 l1 l) := by
  have hb1 : both l0 l1 ≤ l1.length := Nat.min_le_right _ _
  have := rFind_eq l0 l1 l hm0 hm1 hs (both l0 l1) k 0 (by omega) (by omega) (by omega)
  unfold curtilageref05_Find.f F liveTo
  simpa using this
/-- What a table that can be is, place by place, as the reference tests it. -/
def okAt (l0 : List (List S57)) (l1 : List Int) (i : Nat) : Bool :=
  decide (0 ≤ rd l1 (i : Int) ∧ rd l1 (i : Int) ≤ 1073741824) && goodB (rd_L3 l0 (i : Int)) && (if rd l1 (i : Int) = 0 then decide (rd_L3 l0 (i : Int) = []) else decide (F l0 l1 (rd_L3 l0 (i : Int)) = ((i : Int), true)))
theorem rFit_go (l0 : List (List S57)) (l1 : List Int) (hl : l0.length = l1.length) (hm : l0.length ≤ 64) (hs : ∀ i : Nat, (rd_L3 l0 (i : Int)).length ≤ 1000) (d : Nat) : ∀ (k i : Nat), i ≤ l0.length → l0.length - i = d → 2 * d + 1300 ≤ k →
    ∃ b, curtilageref05_Fit.l0 k (l0.length : Int) (i : Int) l0 l1 = some b ∧ (b = true ↔ ∀ j : Nat, i ≤ j → j < l0.length → okAt l0 l1 j = true) := by
  induction d with
  | zero =>
    intro k i h1 h2 hk
    obtain ⟨k, rfl⟩ : ∃ m, k = m + 1 := ⟨k - 1, by omega⟩
    rw [curtilageref05_Fit.l0, if_neg (by omega)]
    exact ⟨true, rfl, fun _ j h3 h4 => by omega, fun _ => rfl⟩
  | succ d ih =>
    intro k i h1 h2 hk
    obtain ⟨k, rfl⟩ : ∃ m, k = m + 1 + 1 := ⟨k - 2, by omega⟩
    obtain ⟨b, hr, hbi⟩ := ih k (i + 1) (by omega) (by omega) (by omega)
    have hi : i < l0.length := by omega
    have hw : wrap64 ((i : Int) + 1) = ((i + 1 : Nat) : Int) := wrap_nat i (by omega)
    refine ⟨okAt l0 l1 i && b, ?_, ?_⟩
    rotate_left
    · rw [Bool.and_eq_true, hbi]
      constructor
      · rintro ⟨h3, h4⟩ j h5 h6
        rcases Nat.eq_or_lt_of_le h5 with rfl | h7
        · exact h3
        · exact h4 j h7 h6
      · intro h
        exact ⟨h i (Nat.le_refl _) hi, fun j h3 h4 => h j (by omega) h4⟩
    have hF := rFind l0 l1 (rd_L3 l0 (i : Int)) (by omega) (by omega) hs k (by omega)
    have hg := rFit (rd_L3 l0 (i : Int)) (hs i) (k + 1) (by omega)
    have hj : ∀ b : Bool, curtilageref05_Fit.j2 (k + 1) (l0.length : Int) (i : Int) (rd_L3 l0 (i : Int)) b l0 l1 = if b = true then some false else (if rd l1 (i : Int) = 0 then curtilageref05_Fit.l0 k (l0.length : Int) ((i + 1 : Nat) : Int) l0 l1 else if F l0 l1 (rd_L3 l0 (i : Int)) = ((i : Int), true) then curtilageref05_Fit.l0 k (l0.length : Int) ((i + 1 : Nat) : Int) l0 l1 else some false) := fun b => by
      rw [curtilageref05_Fit.j2, hF]
      simp only [Option.bind_some]
      rw [if_pos (by omega : (0 : Int) ≤ (i : Int)), if_pos (by omega : (i : Int) < (l1.length : Int)), hw]
      rcases hq : F l0 l1 (rd_L3 l0 (i : Int)) with ⟨z, t⟩
      cases t with
      | true => by_cases hz : z = (i : Int) <;> simp [hz]
      | false => simp
    rw [curtilageref05_Fit.l0, if_pos (by omega), if_pos (by omega), if_pos (by omega), if_pos (by omega), hg]
    simp only [hj]
    unfold okAt goodB
    by_cases h0 : rd l1 (i : Int) < 0
    · rw [if_pos h0, decide_eq_false (by omega : ¬ (0 ≤ rd l1 (i : Int) ∧ rd l1 (i : Int) ≤ 1073741824))]; simp
    · rw [if_neg h0]
      by_cases h3 : rd l1 (i : Int) > 1073741824
      · rw [if_pos h3, decide_eq_false (by omega : ¬ (0 ≤ rd l1 (i : Int) ∧ rd l1 (i : Int) ≤ 1073741824))]; simp
      · rw [if_neg h3, decide_eq_true (by omega : 0 ≤ rd l1 (i : Int) ∧ rd l1 (i : Int) ≤ 1073741824)]
        cases hfb : fitB (rd_L3 l0 (i : Int)) with
        | false => simp
        | true =>
          simp only [Option.bind_some, if_true, Bool.true_and]
          by_cases h16 : ((rd_L3 l0 (i : Int)).length : Int) > 16
          · rw [if_pos h16, decide_eq_false (by omega : ¬ (rd_L3 l0 (i : Int)).length ≤ 16)]; simp
          · rw [if_neg h16, decide_eq_true (by omega : (rd_L3 l0 (i : Int)).length ≤ 16)]
            simp only [Bool.true_and, Bool.false_eq_true, if_false]
            by_cases hz : rd l1 (i : Int) = 0
            · simp only [if_pos hz]
              by_cases hn : rd_L3 l0 (i : Int) = []
              · rw [hn, hr]; simp
              · have : ((rd_L3 l0 (i : Int)).length : Int) > 0 := by have := List.length_pos_iff.2 hn; omega
                rw [if_pos (by simpa using this), decide_eq_false hn]; simp
            · simp only [if_neg hz]
              by_cases hfe : F l0 l1 (rd_L3 l0 (i : Int)) = ((i : Int), true)
              · rw [if_pos hfe, hr, decide_eq_true hfe]; simp
              · rw [if_neg hfe, decide_eq_false hfe]; simp
theorem okAll (l0 : List (List S57)) (l1 : List Int) (hl : l0.length = l1.length) (hm : l1.length ≤ 64) (hlast : ∀ n, l1.length = n + 1 → rd l1 (n : Int) ≠ 0) (h : ∀ j : Nat, 0 ≤ j → j < l0.length → okAt l0 l1 j = true) : FitT l0 l1 := by
  have h' : ∀ j : Nat, j < l1.length → (0 ≤ rd l1 (j : Int) ∧ rd l1 (j : Int) ≤ 1073741824) ∧ goodB (rd_L3 l0 (j : Int)) = true ∧ (rd l1 (j : Int) = 0 → rd_L3 l0 (j : Int) = []) ∧ (rd l1 (j : Int) ≠ 0 → F l0 l1 (rd_L3 l0 (j : Int)) = ((j : Int), true)) := fun j hj => by
    have := h j (by omega) (by omega)
    unfold okAt at this
    simp only [Bool.and_eq_true, decide_eq_true_eq] at this
    obtain ⟨⟨h1, h2⟩, h3⟩ := this
    refine ⟨h1, h2, fun hz => ?_, fun hz => ?_⟩
    · rw [if_pos hz] at h3; simpa using h3
    · rw [if_neg hz] at h3; simpa using h3
  refine ⟨hl, hm, hlast, fun i hi => ⟨(h' i hi).1.1, (h' i hi).1.2, (h' i hi).2.1, (h' i hi).2.2.1⟩, fun i j hi hj hci hcj he => ?_⟩
  have e1 := (h' i hi).2.2.2 hci
  have e2 := (h' j hj).2.2.2 hcj
  rw [he, e2] at e1
  simp only [Prod.mk.injEq, and_true] at e1
  omega
theorem FitT.okAt {l0 : List (List S57)} {l1 : List Int} (h : FitT l0 l1) (j : Nat) (hj : j < l1.length) : okAt l0 l1 j = true := by
  obtain ⟨h1, h2, h3, h4⟩ := h.each j hj
  unfold Tb.okAt
  rw [h3, decide_eq_true ⟨h1, h2⟩]
  by_cases hz : rd l1 (j : Int) = 0
  · rw [if_pos hz, decide_eq_true (h4 hz)]; rfl
  · rw [if_neg hz, decide_eq_true (h.F_at j hz rfl)]; rfl
/-- The reference's Fit tells whether a table can be. -/
theorem rFitT (l0 : List (List S57)) (l1 : List Int) (hm1 : l1.length ≤ 1000) (hs : ∀ i : Nat, (rd_L3 l0 (i : Int)).length ≤ 1000) (k : Nat) (hk : 1500 ≤ k) : ∃ b, curtilageref05_Fit.f k l0 l1 = some b ∧ (b = true ↔ FitT l0 l1) := by
  obtain ⟨k, rfl⟩ : ∃ m, k = m + 1 := ⟨k - 1, by omega⟩
  unfold curtilageref05_Fit.f
  by_cases hl : (l1.length : Int) = (l0.length : Int)
  · rw [if_pos hl]
    by_cases hm : (l0.length : Int) > 64
    · rw [if_pos hm, curtilageref05_Fit.j0, if_pos rfl]
      exact ⟨_, rfl, by simp, fun h => absurd h.le (by omega)⟩
    · rw [if_neg hm]
      obtain ⟨b, hgo, hbi⟩ := rFit_go l0 l1 (by omega) (by omega) hs l0.length k 0 (by omega) (by omega) (by omega)
      have hgo' : curtilageref05_Fit.l0 k (l0.length : Int) 0 l0 l1 = some b := hgo
      by_cases hp : (l0.length : Int) > 0
      · have hw : wrap64 ((l0.length : Int) - 1) = ((l0.length - 1 : Nat) : Int) := by rw [wrap_ok _ (by omega) (by omega)]; omega
        rw [if_pos hp, hw, if_pos (by omega), if_pos (by omega), curtilageref05_Fit.j0, hgo']
        by_cases hz : rd l1 ((l0.length - 1 : Nat) : Int) = 0
        · rw [if_pos (by simpa using hz)]
          exact ⟨_, rfl, by simp, fun h => absurd hz (h.last _ (by have := h.len; omega))⟩
        · rw [if_neg (by simpa using hz)]
          refine ⟨_, rfl, ?_⟩
          rw [hbi]
          constructor
          · intro h
            exact okAll l0 l1 (by omega) (by omega) (fun n hn => by rw [show n = l0.length - 1 by omega]; exact hz) h
          · intro h j _ hj
            exact h.okAt j (by have := h.len; omega)
      · rw [if_neg hp, curtilageref05_Fit.j0, if_neg (by decide), hgo']
        refine ⟨_, rfl, ?_⟩
        rw [hbi]
        constructor
        · intro h
          exact okAll l0 l1 (by omega) (by omega) (fun n hn => by omega) h
        · intro h j _ hj
          exact h.okAt j (by have := h.len; omega)
  · rw [if_neg hl, curtilageref05_Fit.j0, if_pos rfl]
    exact ⟨_, rfl, by simp, fun h => absurd h.len (by omega)⟩
theorem few_spec {l0 : List (List S57)} {l1 : List Int} (h : fewB l0 l1 = true) : l0.length ≤ 70 ∧ l1.length ≤ 70 ∧ ∀ i : Nat, (rd_L3 l0 (i : Int)).length ≤ 20 := by
  unfold fewB at h
  simp only [Bool.and_eq_true, decide_eq_true_eq, List.all_eq_true] at h
  refine ⟨h.1.1, h.1.2, fun i => ?_⟩
  rcases Nat.lt_or_ge i l0.length with hi | hi
  · rw [rdL_at l0 i hi]; exact h.2 _ (List.getElem_mem hi)
  · rw [rdL_out l0 i hi]; simp
theorem Same_eq (a : List (List S57)) (x : List Int) (b : List (List S57)) (y : List Int) : intern_Same.f a x b y = some (decide (x = y) && decide (a = b)) := rfl
end Tb
end Go.Proofs.Ytfoagjdcgipcaaa.X
