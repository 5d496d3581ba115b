/- Tables over lists: what asking for a label and dropping one do to a table that can be, place by place. -/
import Derived.Test.YtfoagjdcgipcaaaKc
import Derived.Test.YtfoagjdcgipcaaaXx3
namespace Go.Proofs.Ytfoagjdcgipcaaa.X
open Go.RowKit Go.Proofs.YtfoagjdcgipcaaaW.PrintWords Go.Proofs.YtfoagjdcgipcaaaW.PrintLast
set_option linter.unusedVariables false
set_option linter.unusedSimpArgs false
namespace Tb
/-! ### labels that can be -/
theorem fit_eq : ∀ (k : Nat) (l : List S57) (i : Int), label_Fit.l0 k l l (l.length : Int) i = curtilageref02_Fit.l0 k l i := by
  intro k
  induction k with
  | zero => intro l i; rfl
  | succ k ih =>
    intro l i
    rw [label_Fit.l0, curtilageref02_Fit.l0]
    by_cases h : i < (l.length : Int)
    · simp only [if_pos h, ih]
      rfl
    · rw [if_neg h, if_neg h]
theorem fit_total (l : List S57) (hl : l.length ≤ 9223372036854775807) (d : Nat) : ∀ (k i : Nat), i ≤ l.length → l.length - i = d → d + 1 ≤ k → ∃ b, curtilageref02_Fit.l0 k l (i : Int) = some b := by
  induction d with
  | zero =>
    intro k i h1 h2 hk
    obtain ⟨k, rfl⟩ : ∃ m, k = m + 1 := ⟨k - 1, by omega⟩
    rw [curtilageref02_Fit.l0, if_neg (by omega)]
    exact ⟨_, rfl⟩
  | succ d ih =>
    intro k i h1 h2 hk
    obtain ⟨k, rfl⟩ : ∃ m, k = m + 1 := ⟨k - 1, by omega⟩
    obtain ⟨b, hb⟩ := ih k (i + 1) (by omega) (by omega) (by omega)
    have hw : wrap64 ((i : Int) + 1) = ((i + 1 : Nat) : Int) := wrap_nat i (by omega)
    rw [curtilageref02_Fit.l0, if_pos (by omega), if_pos (by omega), hw, hb]
    unfold curtilageref01_Fit.f
    by_cases hi : (i : Int) > 0
    · have hw2 : wrap64 ((i : Int) - 1) = ((i - 1 : Nat) : Int) := by rw [wrap_ok _ (by omega) (by omega)]; omega
      have hA : (0 : Int) ≤ ((i - 1 : Nat) : Int) := by omega
      have hB : ((i - 1 : Nat) : Int) < (l.length : Int) := by omega
      simp only [if_pos hi, hw2, if_pos hA, if_pos hB]
      split <;> simp only [Option.bind_some] <;> (repeat' split) <;> exact ⟨_, rfl⟩
    · simp only [if_neg hi]
      split <;> simp only [Option.bind_some] <;> (repeat' split) <;> exact ⟨_, rfl⟩
/-- A label can be. -/
def fitB (l : List S57) : Bool := (curtilageref02_Fit.f (l.length + 1) l).getD false
theorem up {α : Type} (f : Nat → Option α) (hm : ∀ k, LeO (f k) (f (k + 1))) (k n : Nat) (r : α) (h : f k = some r) : f (k + n) = some r := by
  induction n with
  | zero => exact h
  | succ n ih => exact hm _ r ih
theorem upto {α : Type} (f : Nat → Option α) (hm : ∀ k, LeO (f k) (f (k + 1))) {k m : Nat} (hk : k ≤ m) {r : α} (h : f k = some r) : f m = some r := by
  have := up f hm k (m - k) r h
  rwa [show k + (m - k) = m by omega] at this
theorem rFit' (l : List S57) (hl : l.length ≤ 9223372036854775807) (k : Nat) (hk : l.length + 1 ≤ k) : curtilageref02_Fit.f k l = some (fitB l) := by
  obtain ⟨b, hb⟩ := fit_total l hl l.length (l.length + 1) 0 (by omega) (by omega) (by omega)
  have h1 : curtilageref02_Fit.f (l.length + 1) l = some b := hb
  have : fitB l = b := by unfold fitB; rw [h1]; rfl
  rw [this]
  exact upto (fun k => curtilageref02_Fit.f k l) (fun k => curtilageref02_Fit.mono l k) hk h1
theorem rFit (l : List S57) (hl : l.length ≤ 1000) (k : Nat) (hk : 1001 ≤ k) : curtilageref02_Fit.f k l = some (fitB l) := rFit' l (by omega) k (by omega)
/-- A label that a table may hold. -/
def goodB (l : List S57) : Bool := fitB l && decide (l.length ≤ 16)
theorem good_eq' (l : List S57) (hl : l.length ≤ 9223372036854775807) (k : Nat) (hk : l.length + 1 ≤ k) : intern_good.f k l = some (goodB l) := by
  have h1 : label_Fit.f k l = some (fitB l) := (fit_eq k l 0).trans (rFit' l hl k hk)
  unfold intern_good.f goodB
  rw [h1]
  cases fitB l with
  | true =>
    simp only [Option.bind_some, if_true, Bool.true_and]
    congr 1
    exact decide_eq_decide.2 (by omega)
  | false => rfl
theorem good_eq (l : List S57) (hl : l.length ≤ 1000) (k : Nat) (hk : 1001 ≤ k) : intern_good.f k l = some (goodB l) := good_eq' l (by omega) k (by omega)
theorem good_nil : goodB [] = true := by
  have h : curtilageref02_Fit.f 1 ([] : List S57) = some true := rfl
  have h2 := rFit [] (by simp) 1001 (by omega)
  have h3 := upto (fun k => curtilageref02_Fit.f k ([] : List S57)) (fun k => curtilageref02_Fit.mono _ k) (by omega : 1 ≤ 1001) h
  have h4 : (some (fitB []) : Option Bool) = some true := h2.symm.trans h3
  have h5 : fitB [] = true := by injection h4
  unfold goodB
  rw [h5]
  rfl
/-! ### places -/
theorem rd_set (l : List Int) (z : Nat) (v : Int) (i : Nat) (hz : z < l.length) : rd (l.set z v) (i : Int) = if i = z then v else rd l (i : Int) := by
  simp only [rd, Int.toNat_natCast, List.getD_eq_getElem?_getD, List.getElem?_set]
  by_cases h : z = i
  · subst h; simp [hz]
  · rw [if_neg h, if_neg (fun e => h e.symm)]
theorem rd_out (l : List Int) (i : Nat) (h : l.length ≤ i) : rd l (i : Int) = 0 := by simp [rd, List.getD_eq_getElem?_getD, List.getElem?_eq_none h]
theorem rd_app (l : List Int) (v : Int) (i : Nat) : rd (l ++ [v]) (i : Int) = if i = l.length then v else rd l (i : Int) := by
  simp only [rd, Int.toNat_natCast, List.getD_eq_getElem?_getD]
  by_cases h : i < l.length
  · rw [List.getElem?_append_left h, if_neg (by omega)]
  · rw [List.getElem?_append_right (by omega)]
    by_cases h2 : i = l.length
    · subst h2; simp
    · rw [if_neg h2, List.getElem?_eq_none (by simp; omega), List.getElem?_eq_none (by omega)]
theorem rd_take (l : List Int) (n i : Nat) : rd (l.take n) (i : Int) = if i < n then rd l (i : Int) else 0 := by
  simp only [rd, Int.toNat_natCast, List.getD_eq_getElem?_getD, List.getElem?_take]
  split <;> simp
theorem rdL_set (l : List (List S57)) (z : Nat) (v : List S57) (i : Nat) (hz : z < l.length) : rd_L3 (l.set z v) (i : Int) = if i = z then v else rd_L3 l (i : Int) := by
  simp only [rd_L3, Int.toNat_natCast, List.getD_eq_getElem?_getD, List.getElem?_set]
  by_cases h : z = i
  · subst h; simp [hz]
  · rw [if_neg h, if_neg (fun e => h e.symm)]
theorem rdL_out (l : List (List S57)) (i : Nat) (h : l.length ≤ i) : rd_L3 l (i : Int) = [] := by simp [rd_L3, List.getD_eq_getElem?_getD, List.getElem?_eq_none h]
theorem rdL_app (l : List (List S57)) (v : List S57) (i : Nat) : rd_L3 (l ++ [v]) (i : Int) = if i = l.length then v else rd_L3 l (i : Int) := by
  simp only [rd_L3, Int.toNat_natCast, List.getD_eq_getElem?_getD]
  by_cases h : i < l.length
  · rw [List.getElem?_append_left h, if_neg (by omega)]
  · rw [List.getElem?_append_right (by omega)]
    by_cases h2 : i = l.length
    · subst h2; simp
    · rw [if_neg h2, List.getElem?_eq_none (by simp; omega), List.getElem?_eq_none (by omega)]
theorem rdL_take (l : List (List S57)) (n i : Nat) : rd_L3 (l.take n) (i : Int) = if i < n then rd_L3 l (i : Int) else [] := by
  simp only [rd_L3, Int.toNat_natCast, List.getD_eq_getElem?_getD, List.getElem?_take]
  split <;> simp
/-- A table that can be. -/
structure FitT (l0 : List (List S57)) (l1 : List Int) : Prop where
  len : l0.length = l1.length
  le : l1.length ≤ 64
  last : ∀ n, l1.length = n + 1 → rd l1 (n : Int) ≠ 0
  each : ∀ i : Nat, i < l1.length → 0 ≤ rd l1 (i : Int) ∧ rd l1 (i : Int) ≤ 1073741824 ∧ goodB (rd_L3 l0 (i : Int)) = true ∧ (rd l1 (i : Int) = 0 → rd_L3 l0 (i : Int) = [])
  uniq : ∀ i j : Nat, i < l1.length → j < l1.length → rd l1 (i : Int) ≠ 0 → rd l1 (j : Int) ≠ 0 → rd_L3 l0 (i : Int) = rd_L3 l0 (j : Int) → i = j
theorem FitT.nonneg {l0 : List (List S57)} {l1 : List Int} (h : FitT l0 l1) (i : Nat) : 0 ≤ rd l1 (i : Int) := by
  rcases Nat.lt_or_ge i l1.length with hi | hi
  · exact (h.each i hi).1
  · rw [rd_out l1 i hi]; omega
theorem FitT.zero {l0 : List (List S57)} {l1 : List Int} (h : FitT l0 l1) (i : Nat) (hc : rd l1 (i : Int) = 0) : rd_L3 l0 (i : Int) = [] := by
  rcases Nat.lt_or_ge i l1.length with hi | hi
  · exact (h.each i hi).2.2.2 hc
  · exact rdL_out l0 i (by rw [h.len]; exact hi)
/-! ### Find -/
theorem mem_live (l : List Int) : ∀ (k i : Nat), i ∈ live l k ↔ k ≤ i ∧ i < k + l.length ∧ rd l ((i - k : Nat) : Int) ≠ 0 := by
  induction l with
  | nil => intro k i; simp [live]; omega
  | cons c r ih =>
    intro k i
    have h0 : rd (c :: r) (0 : Int) = c := rfl
    have hs : ∀ j : Nat, rd (c :: r) ((j + 1 : Nat) : Int) = rd r (j : Int) := fun j => by
      simp only [rd, Int.toNat_natCast, List.getD_eq_getElem?_getD, List.getElem?_cons_succ]
    simp only [live]
    by_cases hc : (c != 0) = true
    · have hc' : c ≠ 0 := by simpa using hc
      rw [if_pos hc, List.mem_cons, ih]
      constructor
      · rintro (rfl | ⟨h1, h2, h3⟩)
        · refine ⟨Nat.le_refl _, by simp, ?_⟩
          rw [Nat.sub_self]; exact hc'
        · refine ⟨by omega, by simp; omega, ?_⟩
          rw [show i - k = (i - (k + 1)) + 1 by omega, hs]; exact h3
      · rintro ⟨h1, h2, h3⟩
        rcases Nat.eq_or_lt_of_le h1 with rfl | hlt
        · exact .inl rfl
        · refine .inr ⟨hlt, by simp at h2; omega, ?_⟩
          rw [show i - k = (i - (k + 1)) + 1 by omega, hs] at h3; exact h3
    · have hc' : c = 0 := by simpa using hc
      rw [if_neg hc, ih]
      constructor
      · rintro ⟨h1, h2, h3⟩
        refine ⟨by omega, by simp; omega, ?_⟩
        rw [show i - k = (i - (k + 1)) + 1 by omega, hs]; exact h3
      · rintro ⟨h1, h2, h3⟩
        rcases Nat.eq_or_lt_of_le h1 with rfl | hlt
        · rw [Nat.sub_self] at h3; exact absurd hc' h3
        · refine ⟨hlt, by simp at h2; omega, ?_⟩
          rw [show i - k = (i - (k + 1)) + 1 by omega, hs] at h3; exact h3
theorem liveTo_all {l0 : List (List S57)} {l1 : List Int} (h : l0.length = l1.length) : liveTo l1 (both l0 l1) = live l1 0 := by
  unfold liveTo both
  rw [h, Nat.min_self, List.take_length]
theorem findIn_true (l0 : List (List S57)) (l : List S57) (zs : List Nat) (z : Int) (h : findIn l0 l zs = (z, true)) : ∃ i : Nat, z = (i : Int) ∧ i ∈ zs ∧ rd_L3 l0 (i : Int) = l := by
  induction zs with
  | nil => simp [findIn] at h
  | cons x r ih =>
    unfold findIn at h
    split at h
    · rename_i he
      simp only [Prod.mk.injEq, and_true] at h
      exact ⟨x, h.symm, by simp, he⟩
    · obtain ⟨i, h1, h2, h3⟩ := ih h
      exact ⟨i, h1, by simp [h2], h3⟩
theorem findIn_none' (l0 : List (List S57)) (l : List S57) (zs : List Nat) (z : Int) (h : findIn l0 l zs = (z, false)) : ∀ i ∈ zs, rd_L3 l0 (i : Int) ≠ l := by
  induction zs with
  | nil => simp
  | cons x r ih =>
    unfold findIn at h
    split at h
    · simp at h
    · rename_i hne
      intro i hi
      rcases List.mem_cons.1 hi with rfl | hi
      · exact hne
      · exact ih h i hi
/-- Where a label is. -/
def F (l0 : List (List S57)) (l1 : List Int) (l : List S57) : Int × Bool := findIn l0 l (liveTo l1 (both l0 l1))
theorem F_true {l0 : List (List S57)} {l1 : List Int} (hl : l0.length = l1.length) {l : List S57} {z : Int} (h : F l0 l1 l = (z, true)) : ∃ i : Nat, z = (i : Int) ∧ i < l1.length ∧ rd l1 (i : Int) ≠ 0 ∧ rd_L3 l0 (i : Int) = l := by
  unfold F at h
  rw [liveTo_all hl] at h
  obtain ⟨i, h1, h2, h3⟩ := findIn_true _ _ _ _ h
  have := (mem_live l1 0 i).1 h2
  rw [Nat.sub_zero] at this
  exact ⟨i, h1, by omega, this.2.2, h3⟩
theorem F_false {l0 : List (List S57)} {l1 : List Int} (hl : l0.length = l1.length) {l : List S57} {z : Int} (h : F l0 l1 l = (z, false)) : z = 0 ∧ ∀ i : Nat, rd l1 (i : Int) ≠ 0 → rd_L3 l0 (i : Int) ≠ l := by
  unfold F at h
  refine ⟨findIn_false _ _ _ _ h, fun i hc => ?_⟩
  rw [liveTo_all hl] at h
  rcases Nat.lt_or_ge i l1.length with hi | hi
  · exact findIn_none' _ _ _ _ h i ((mem_live l1 0 i).2 ⟨by omega, by omega, by rw [Nat.sub_zero]; exact hc⟩)
  · exact absurd (rd_out l1 i hi) hc
theorem FitT.F_at {l0 : List (List S57)} {l1 : List Int} (h : FitT l0 l1) {l : List S57} (i : Nat) (hc : rd l1 (i : Int) ≠ 0) (hL : rd_L3 l0 (i : Int) = l) : F l0 l1 l = ((i : Int), true) := by
  have hi : i < l1.length := by
    rcases Nat.lt_or_ge i l1.length with hi | hi
    · exact hi
    · exact absurd (rd_out l1 i hi) hc
  rcases hq : F l0 l1 l with ⟨z, b⟩
  cases b with
  | true =>
    obtain ⟨j, rfl, hj, hcj, hLj⟩ := F_true h.len hq
    rw [h.uniq i j hi hj hc hcj (by rw [hL, hLj])]
  | false => exact absurd hL ((F_false h.len hq).2 i hc)
/-! ### the first free place -/
theorem free_spec (l : List Int) : ∀ k, (∀ i : Nat, k ≤ i → i < freeFrom l k → rd l ((i - k : Nat) : Int) ≠ 0) ∧ rd l ((freeFrom l k - k : Nat) : Int) = 0 := by
  induction l with
  | nil => intro k; exact ⟨fun i h1 h2 => by simp [freeFrom] at h2; omega, by simp [freeFrom, rd]⟩
  | cons c r ih =>
    intro k
    have hs : ∀ j : Nat, rd (c :: r) ((j + 1 : Nat) : Int) = rd r (j : Int) := fun j => by
      simp only [rd, Int.toNat_natCast, List.getD_eq_getElem?_getD, List.getElem?_cons_succ]
    by_cases hc : c = 0
    · have hf : freeFrom (c :: r) k = k := by simp [freeFrom, hc]
      rw [hf]
      refine ⟨fun i h1 h2 => by omega, ?_⟩
      rw [Nat.sub_self]; exact hc
    · have hf : freeFrom (c :: r) k = freeFrom r (k + 1) := by simp [freeFrom, hc]
      have hle := (freeFrom_le r (k + 1)).1
      rw [hf]
      obtain ⟨h1, h2⟩ := ih (k + 1)
      refine ⟨fun i hi hlt => ?_, ?_⟩
      · rcases Nat.eq_or_lt_of_le hi with rfl | hgt
        · rw [Nat.sub_self]; exact hc
        · rw [show i - k = (i - (k + 1)) + 1 by omega, hs]
          exact h1 i hgt hlt
      · rw [show freeFrom r (k + 1) - k = (freeFrom r (k + 1) - (k + 1)) + 1 by omega, hs]
        exact h2
theorem free_zero (l : List Int) : rd l (freeFrom l 0 : Nat) = 0 := by simpa using (free_spec l 0).2
/-- How many places are asked for. -/
def used (l : List Int) : Nat := (live l 0).length
theorem live_len (l : List Int) (k : Nat) : (live l k).length = l.countP (fun c => c != 0) := by
  induction l generalizing k with
  | nil => rfl
  | cons c r ih =>
    simp only [live, List.countP_cons]
    split <;> simp_all
theorem used_eq (l : List Int) : used l = l.countP (fun c => c != 0) := live_len l 0
end Tb
end Go.Proofs.Ytfoagjdcgipcaaa.X
