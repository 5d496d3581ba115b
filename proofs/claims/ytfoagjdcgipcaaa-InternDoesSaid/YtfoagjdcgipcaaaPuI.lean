/- Plain laws: what intern's and the reference's functions tell of a table are the same. -/
import Derived.Test.YtfoagjdcgipcaaaPuR1
import Derived.Test.YtfoagjdcgipcaaaXx10
import Derived.Test.YtfoagjdcgipcaaaXx11
import Derived.Test.YtfoagjdcgipcaaaXx12
namespace Go.Proofs.Ytfoagjdcgipcaaa.X
open Go.RowKit Go.Proofs.YtfoagjdcgipcaaaW.PrintWords Go.Proofs.YtfoagjdcgipcaaaW.PrintLast
set_option linter.unusedVariables false
set_option linter.unusedSimpArgs false
namespace Tb
/-! ### Fit -/
theorem F_there {l0 : List (List S57)} {l1 : List Int} (hl : l0.length = l1.length) (i : Nat) (hc : rd l1 (i : Int) ≠ 0) : (F l0 l1 (rd_L3 l0 (i : Int))).2 = true := by
  rcases hq : F l0 l1 (rd_L3 l0 (i : Int)) with ⟨z, b⟩
  cases b with
  | true => rfl
  | false => exact absurd rfl ((F_false hl hq).2 i hc)
theorem iFit_go (l0 : List (List S57)) (l1 : List Int) (hl : l0.length = l1.length) (hm : l0.length ≤ 64) (hs : ∀ i : Nat, (rd_L3 l0 (i : Int)).length ≤ 1000) (d : Nat) : ∀ (k i : Nat), i ≤ l0.length → l0.length - i = d → 2 * d + 1300 ≤ k →
    ∃ b, intern_Fit.l0 k l1 (l1.length : Int) (i : Int) l0 l1 = some b ∧ (b = true ↔ ∀ j : Nat, i ≤ j → j < l0.length → okAt l0 l1 j = true) := by
  induction d with
  | zero =>
    intro k i h1 h2 hk
    obtain ⟨k, rfl⟩ : ∃ m, k = m + 1 := ⟨k - 1, by omega⟩
    rw [intern_Fit.l0, if_neg (by omega)]
    exact ⟨true, rfl, fun _ j h3 h4 => by omega, fun _ => rfl⟩
  | succ d ih =>
    intro k i h1 h2 hk
    obtain ⟨k, rfl⟩ : ∃ m, k = m + 1 + 1 := ⟨k - 2, by omega⟩
    obtain ⟨b, hr, hbi⟩ := ih k (i + 1) (by omega) (by omega) (by omega)
    have hi : i < l0.length := by omega
    have hw : wrap64 ((i : Int) + 1) = ((i + 1 : Nat) : Int) := wrap_nat i (by omega)
    refine ⟨okAt l0 l1 i && b, ?_, ?_⟩
    rotate_left
    · rw [Bool.and_eq_true, hbi]
      constructor
      · rintro ⟨h3, h4⟩ j h5 h6
        rcases Nat.eq_or_lt_of_le h5 with rfl | h7
        · exact h3
        · exact h4 j h7 h6
      · intro h
        exact ⟨h i (Nat.le_refl _) hi, fun j h3 h4 => h j (by omega) h4⟩
    have hF : intern_Find.f l0 l1 (rd_L3 l0 (i : Int)) = some (F l0 l1 (rd_L3 l0 (i : Int))) := rfl
    have hg := good_eq (rd_L3 l0 (i : Int)) (hs i) (k + 1) (by omega)
    have hj : ∀ b : Bool, intern_Fit.j2 (k + 1) (i : Int) (rd l1 (i : Int)) (rd_L3 l0 (i : Int)) l1 (l1.length : Int) (i : Int) b l0 l1 = if b = true then some false else (if rd l1 (i : Int) = 0 then (if rd_L3 l0 (i : Int) = [] then intern_Fit.l0 k l1 (l1.length : Int) ((i + 1 : Nat) : Int) l0 l1 else some false) else if F l0 l1 (rd_L3 l0 (i : Int)) = ((i : Int), true) then intern_Fit.l0 k l1 (l1.length : Int) ((i + 1 : Nat) : Int) l0 l1 else some false) := fun b => by
      rw [intern_Fit.j2, hF]
      simp only [Option.bind_some]
      rw [hw]
      by_cases hb : b = true
      · rw [if_pos hb, if_pos hb]
      · rw [if_neg hb, if_neg hb]
        by_cases hz : rd l1 (i : Int) = 0
        · rw [if_pos hz, if_pos hz]
          by_cases hn : rd_L3 l0 (i : Int) = []
          · rw [if_pos hn, if_neg (by rw [hn]; simp)]
          · rw [if_neg hn, if_pos (by have := List.length_pos_iff.2 hn; omega)]
        · rw [if_neg hz, if_neg hz]
          have ht := F_there hl i hz
          rcases hq : F l0 l1 (rd_L3 l0 (i : Int)) with ⟨z, t⟩
          rw [hq] at ht
          simp only at ht
          subst ht
          by_cases hzi : z = (i : Int) <;> simp [hzi]
    rw [intern_Fit.l0, if_pos (by omega), if_pos (by omega), if_pos (by omega), if_pos (by omega), hg]
    simp only [hj]
    unfold okAt
    by_cases h0 : rd l1 (i : Int) < 0
    · rw [if_pos h0, decide_eq_false (by omega : ¬ (0 ≤ rd l1 (i : Int) ∧ rd l1 (i : Int) ≤ 1073741824))]; simp
    · rw [if_neg h0]
      by_cases h3 : rd l1 (i : Int) > 1073741824
      · rw [if_pos h3, decide_eq_false (by omega : ¬ (0 ≤ rd l1 (i : Int) ∧ rd l1 (i : Int) ≤ 1073741824))]; simp
      · rw [if_neg h3, decide_eq_true (by omega : 0 ≤ rd l1 (i : Int) ∧ rd l1 (i : Int) ≤ 1073741824)]
        cases hfb : goodB (rd_L3 l0 (i : Int)) with
        | false => simp
        | true =>
          simp only [Option.bind_some, Bool.true_and, Bool.not_true, Bool.false_eq_true, if_false]
          by_cases hz : rd l1 (i : Int) = 0
          · simp only [if_pos hz]
            by_cases hn : rd_L3 l0 (i : Int) = []
            · rw [if_pos hn, hr, decide_eq_true hn]; simp
            · rw [if_neg hn, decide_eq_false hn]; simp
          · simp only [if_neg hz]
            by_cases hfe : F l0 l1 (rd_L3 l0 (i : Int)) = ((i : Int), true)
            · rw [if_pos hfe, hr, decide_eq_true hfe]; simp
            · rw [if_neg hfe, decide_eq_false hfe]; simp
theorem iFitT (l0 : List (List S57)) (l1 : List Int) (hm1 : l1.length ≤ 1000) (hs : ∀ i : Nat, (rd_L3 l0 (i : Int)).length ≤ 1000) (k : Nat) (hk : 1500 ≤ k) : ∃ b, intern_Fit.f k l0 l1 = some b ∧ (b = true ↔ FitT l0 l1) := by
  obtain ⟨k, rfl⟩ : ∃ m, k = m + 1 := ⟨k - 1, by omega⟩
  unfold intern_Fit.f
  by_cases hl : (l0.length : Int) = (l1.length : Int)
  · rw [if_pos hl]
    by_cases hm : (l1.length : Int) > 64
    · rw [if_pos hm, intern_Fit.j0, if_pos rfl]
      exact ⟨_, rfl, by simp, fun h => absurd h.le (by omega)⟩
    · rw [if_neg hm]
      obtain ⟨b, hgo, hbi⟩ := iFit_go l0 l1 (by omega) (by omega) hs l0.length k 0 (by omega) (by omega) (by omega)
      have hgo' : intern_Fit.l0 k l1 (l1.length : Int) 0 l0 l1 = some b := hgo
      by_cases hp : (l1.length : Int) > 0
      · have hw : wrap64 ((l1.length : Int) - 1) = ((l1.length - 1 : Nat) : Int) := by rw [wrap_ok _ (by omega) (by omega)]; omega
        rw [if_pos hp, hw, if_pos (by omega), if_pos (by omega), intern_Fit.j0, hgo']
        by_cases hz : rd l1 ((l1.length - 1 : Nat) : Int) = 0
        · rw [if_pos (by simpa using hz)]
          exact ⟨_, rfl, by simp, fun h => absurd hz (h.last _ (by omega))⟩
        · rw [if_neg (by simpa using hz)]
          refine ⟨_, rfl, ?_⟩
          rw [hbi]
          constructor
          · intro h
            exact okAll l0 l1 (by omega) (by omega) (fun n hn => by rw [show n = l1.length - 1 by omega]; exact hz) h
          · intro h j _ hj
            exact h.okAt j (by have := h.len; omega)
      · rw [if_neg hp, intern_Fit.j0, if_neg (by decide), hgo']
        refine ⟨_, rfl, ?_⟩
        rw [hbi]
        constructor
        · intro h
          exact okAll l0 l1 (by omega) (by omega) (fun n hn => by omega) h
        · intro h j _ hj
          exact h.okAt j (by have := h.len; omega)
  · rw [if_neg hl, intern_Fit.j0, if_pos rfl]
    exact ⟨_, rfl, by simp, fun h => absurd h.len (by omega)⟩
/-! ### Same -/
theorem same_l1 (a : List (List S57)) (x : List Int) (b : List (List S57)) (y : List Int) (hxy : x.length = y.length) (hm : x.length ≤ 1000) (d : Nat) : ∀ (k i : Nat), i ≤ x.length → x.length - i = d → d + 1 ≤ k →
    curtilageref05_Same.l1 k (i : Int) a x b y = some (decide (x.drop i = y.drop i)) := by
  induction d with
  | zero =>
    intro k i h1 h2 hk
    obtain ⟨k, rfl⟩ : ∃ m, k = m + 1 := ⟨k - 1, by omega⟩
    rw [curtilageref05_Same.l1, if_neg (by omega), List.drop_eq_nil_of_le (by omega), List.drop_eq_nil_of_le (by omega)]
    rfl
  | succ d ih =>
    intro k i h1 h2 hk
    obtain ⟨k, rfl⟩ : ∃ m, k = m + 1 := ⟨k - 1, by omega⟩
    have ha : i < x.length := by omega
    have hb : i < y.length := by omega
    have ra : rd x (i : Int) = x[i] := by simp [rd, List.getD_eq_getElem?_getD, ha]
    have rb : rd y (i : Int) = y[i] := by simp [rd, List.getD_eq_getElem?_getD, hb]
    rw [curtilageref05_Same.l1, if_pos (by omega), if_pos (by omega), if_pos (by omega), wrap_nat i (by omega), ra, rb, ih k (i + 1) (by omega) (by omega) (by omega), List.drop_eq_getElem_cons ha, List.drop_eq_getElem_cons hb]
    generalize x.drop (i + 1) = u
    generalize y.drop (i + 1) = v
    generalize x[i] = p
    generalize y[i] = q
    by_cases h : p = q
    · subst h; simp
    · rw [if_neg h]; simp [h]
theorem same_l0 (a : List (List S57)) (x : List Int) (b : List (List S57)) (y : List Int) (hab : a.length = b.length) (hxy : x.length = y.length) (hm0 : a.length ≤ 1000) (hm : x.length ≤ 1000) (hs : ∀ i : Nat, (rd_L3 a (i : Int)).length ≤ 1000) (d : Nat) : ∀ (k i : Nat), i ≤ a.length → a.length - i = d → d + 2200 ≤ k →
    curtilageref05_Same.l0 k (i : Int) a x b y = some (decide (a.drop i = b.drop i) && decide (x = y)) := by
  induction d with
  | zero =>
    intro k i h1 h2 hk
    obtain ⟨k, rfl⟩ : ∃ m, k = m + 1 := ⟨k - 1, by omega⟩
    have := same_l1 a x b y hxy hm x.length k 0 (by omega) (by omega) (by omega)
    rw [List.drop_zero, List.drop_zero] at this
    rw [curtilageref05_Same.l0, if_neg (by omega), List.drop_eq_nil_of_le (by omega), List.drop_eq_nil_of_le (by omega)]
    exact this
  | succ d ih =>
    intro k i h1 h2 hk
    obtain ⟨k, rfl⟩ : ∃ m, k = m + 1 := ⟨k - 1, by omega⟩
    have ha : i < a.length := by omega
    have hb : i < b.length := by omega
    rw [curtilageref05_Same.l0, if_pos (by omega), if_pos (by omega), if_pos (by omega), wrap_nat i (by omega), rSame _ _ (hs i) k (by omega), Option.bind_some, ih k (i + 1) (by omega) (by omega) (by omega), rdL_at a i ha, rdL_at b i hb, List.drop_eq_getElem_cons ha, List.drop_eq_getElem_cons hb]
    generalize a.drop (i + 1) = u
    generalize b.drop (i + 1) = v
    generalize a[i] = p
    generalize b[i] = q
    by_cases h : p = q
    · subst h; simp
    · simp [h]
theorem rSameT (a : List (List S57)) (x : List Int) (b : List (List S57)) (y : List Int) (hm0 : a.length ≤ 1000) (hm : x.length ≤ 1000) (hs : ∀ i : Nat, (rd_L3 a (i : Int)).length ≤ 1000) (k : Nat) (hk : 3300 ≤ k) :
    curtilageref05_Same.f k a x b y = some (decide (x = y) && decide (a = b)) := by
  obtain ⟨k, rfl⟩ : ∃ m, k = m + 1 := ⟨k - 1, by omega⟩
  unfold curtilageref05_Same.f
  by_cases hab : a.length = b.length
  · rw [if_pos (by omega), curtilageref05_Same.j0]
    by_cases hxy : x.length = y.length
    · rw [if_neg (by simp [hxy])]
      have := same_l0 a x b y hab hxy hm0 hm hs a.length k 0 (by omega) (by omega) (by omega)
      rw [List.drop_zero, List.drop_zero] at this
      rw [Bool.and_comm]
      exact this
    · rw [if_pos (by simp; omega)]
      have : ¬ x = y := fun e => hxy (by rw [e])
      simp [this]
  · rw [if_neg (by omega), curtilageref05_Same.j0, if_pos rfl]
    have : ¬ a = b := fun e => hab (by rw [e])
    simp [this]
/-! ### Add -/
theorem radd_l0 (l : List S57) (l0 : List (List S57)) (l1 : List Int) (hl : l0.length = l1.length) (hm : l1.length ≤ 64) (d : Nat) : ∀ (k i : Nat), i ≤ l1.length → l1.length - i = d → d + 2 ≤ k → freeFrom (l1.drop i) i = freeFrom l1 0 →
    ∃ q, curtilageref05_Add.l0 k l (i : Int) l0 l1 l0 l1 = curtilageref05_Add.j2 (q + 1) l ((freeFrom l1 0 : Nat) : Int) l0 l1 l0 l1 := by
  induction d with
  | zero =>
    intro k i h1 h2 hk hf
    obtain ⟨k, rfl⟩ : ∃ m, k = m + 2 := ⟨k - 2, by omega⟩
    rw [List.drop_eq_nil_of_le (by omega)] at hf
    rw [curtilageref05_Add.l0, if_neg (by omega), ← hf]
    exact ⟨k, rfl⟩
  | succ d ih =>
    intro k i h1 h2 hk hf
    obtain ⟨k, rfl⟩ : ∃ m, k = m + 2 := ⟨k - 2, by omega⟩
    have ha : i < l1.length := by omega
    have ra : rd l1 (i : Int) = l1[i] := by simp [rd, List.getD_eq_getElem?_getD, ha]
    rw [List.drop_eq_getElem_cons ha, freeFrom] at hf
    rw [curtilageref05_Add.l0, if_pos (by omega), if_pos (by omega), ra]
    by_cases hz : l1[i] = 0
    · rw [if_pos hz] at hf
      rw [if_pos hz, ← hf]
      exact ⟨k, rfl⟩
    · rw [if_neg hz] at hf
      rw [if_neg hz, wrap_nat i (by omega)]
      exact ih (k + 1) (i + 1) (by omega) (by omega) (by omega) hf
theorem rAdd (l0 : List (List S57)) (l1 : List Int) (l : List S57) (h : FitT l0 l1) (hl1 : l.length ≤ 1000) (hs : ∀ i : Nat, (rd_L3 l0 (i : Int)).length ≤ 1000) (k : Nat) (hk : 3000 ≤ k) :
    curtilageref05_Add.f k l0 l1 l = intern_Add.f k l0 l1 l := by
  obtain ⟨k, rfl⟩ : ∃ m, k = m + 1 := ⟨k - 1, by omega⟩
  have hle := h.le
  have hl := h.len
  unfold curtilageref05_Add.f intern_Add.f
  rw [rFit l hl1 (k + 1) (by omega), good_eq l hl1 (k + 1) (by omega), Option.bind_some, Option.bind_some]
  unfold goodB
  by_cases hf : fitB l = true
  · rw [if_pos hf, hf, Bool.true_and, curtilageref05_Add.j0]
    by_cases h16 : (l.length : Int) > 16
    · rw [if_pos (decide_eq_true h16), if_neg (by simp; omega)]
    · rw [if_neg (by simp; omega), if_pos (by simp; omega)]
      have hcp : curtilageref05_copied.f l0 l1 = some (l0, l1) := by
        unfold curtilageref05_copied.f
        rw [if_pos (by simp; omega), if_pos (by simp; omega)]
        simp
      rw [hcp, Option.bind_some, rFind l0 l1 l (by omega) (by omega) hs k (by omega), Option.bind_some]
      unfold intern_Add.g
      rw [if_pos (show l0.length < 5864062014805 ∧ l1.length < 17592186044416 ∧ l.length < 8796093022208 from ⟨by omega, by omega, by omega⟩), show findIn l0 l (liveTo l1 (both l0 l1)) = F l0 l1 l from rfl]
      rcases hq : F l0 l1 l with ⟨z, b⟩
      cases b with
      | true =>
        obtain ⟨i, rfl, hi, hc, hL⟩ := F_true hl hq
        dsimp only
        rw [if_pos rfl, if_pos rfl, if_pos (show (0 : Int) ≤ (i : Int) ∧ (i : Int) < l1.length from ⟨by omega, by omega⟩), if_pos (by omega), if_pos (by omega)]
        by_cases hm : rd l1 (i : Int) = 1073741824
        · rw [if_pos hm, if_pos hm]
        · rw [if_neg hm, if_neg hm, if_pos (by omega)]
      | false =>
        obtain ⟨rfl, hn⟩ := F_false hl hq
        dsimp only
        rw [if_neg (by decide), if_neg (by decide)]
        obtain ⟨q, hr⟩ := radd_l0 l l0 l1 hl hle l1.length k 0 (by omega) (by omega) (by omega) rfl
        rw [show ((0 : Nat) : Int) = 0 from rfl] at hr
        rw [hr, curtilageref05_Add.j2]
        have hfl := (freeFrom_le l1 0).2
        by_cases h64 : freeFrom l1 0 = 64
        · rw [if_pos (by omega), if_pos h64]
        · rw [if_neg (by omega), if_neg h64]
          by_cases he : freeFrom l1 0 = l1.length
          · rw [if_pos (by omega), if_pos he, if_pos (by omega), Option.bind_some, if_pos (by omega), Option.bind_some, if_pos (by omega), if_pos (by rw [List.length_append, List.length_singleton]; omega), if_pos (by rw [List.length_append, List.length_singleton]; omega), if_pos (by omega), he, Int.toNat_natCast]
          · rw [if_neg (by omega), if_neg he, if_pos (by omega), if_pos (by omega), if_pos (by omega), if_pos (by omega), Int.toNat_natCast]
  · rw [if_neg hf, Bool.eq_false_iff.2 hf, Bool.false_and, if_neg (by decide), curtilageref05_Add.j0, if_pos rfl]
end Tb
end Go.Proofs.Ytfoagjdcgipcaaa.X
