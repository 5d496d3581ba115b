/- Tables over lists: asking for a label and dropping one, place by place. -/
import Derived.Test.YtfoagjdcgipcaaaPuA
namespace Go.Proofs.Ytfoagjdcgipcaaa.X
open Go.RowKit Go.Proofs.YtfoagjdcgipcaaaW.PrintWords Go.Proofs.YtfoagjdcgipcaaaW.PrintLast
set_option linter.unusedVariables false
set_option linter.unusedSimpArgs false
namespace Tb
/-- A table behind one that asks for a label at a place. -/
structure Put (l0 : List (List S57)) (l1 : List Int) (l : List S57) (z : Nat) (r0 : List (List S57)) (r1 : List Int) : Prop where
  len : r0.length = r1.length
  n : r1.length = max l1.length (z + 1)
  c : ∀ i : Nat, rd r1 (i : Int) = if i = z then rd l1 (z : Int) + 1 else rd l1 (i : Int)
  L : ∀ i : Nat, rd_L3 r0 (i : Int) = if i = z then l else rd_L3 l0 (i : Int)
  us : used r1 = used l1 + (if rd l1 (z : Int) = 0 then 1 else 0)
theorem count_set (l : List Int) (z : Nat) (v : Int) (hz : z < l.length) : used (l.set z v) + (if rd l (z : Int) = 0 then 0 else 1) = used l + (if v = 0 then 0 else 1) := by
  rw [used_eq, used_eq]
  induction l generalizing z with
  | nil => simp at hz
  | cons a r ih =>
    cases z with
    | zero =>
      have : rd (a :: r) ((0 : Nat) : Int) = a := rfl
      rw [this]
      simp only [List.set_cons_zero, List.countP_cons]
      by_cases h1 : a = 0 <;> by_cases h2 : v = 0 <;> simp [h1, h2]
    | succ z =>
      have hs : rd (a :: r) ((z + 1 : Nat) : Int) = rd r (z : Int) := by simp only [rd, Int.toNat_natCast, List.getD_eq_getElem?_getD, List.getElem?_cons_succ]
      rw [hs]
      simp only [List.set_cons_succ, List.countP_cons]
      have := ih z (by simpa using hz)
      omega
theorem used_app (l : List Int) (v : Int) : used (l ++ [v]) = used l + (if v = 0 then 0 else 1) := by
  rw [used_eq, used_eq, List.countP_append]
  by_cases h : v = 0 <;> simp [h]
variable {l0 r0 : List (List S57)} {l1 r1 : List Int} {l : List S57} {z : Nat}
theorem goodB_len (hg : goodB l = true) : l.length ≤ 16 := by
  unfold goodB at hg
  simp only [Bool.and_eq_true, decide_eq_true_eq] at hg
  exact hg.2
theorem lt_of_c {l1 : List Int} {z : Nat} (hc : rd l1 (z : Int) ≠ 0) : z < l1.length := by
  rcases Nat.lt_or_ge z l1.length with h | h
  · exact h
  · exact absurd (rd_out l1 z h) hc
theorem add_found (h : FitT l0 l1) (hg : goodB l = true) (hc : rd l1 (z : Int) ≠ 0) (hL : rd_L3 l0 (z : Int) = l) (hm : rd l1 (z : Int) < 1073741824) :
    ∃ r0 r1, intern_Add.g l0 l1 l = some (r0, r1, (z : Int), 0) ∧ Put l0 l1 l z r0 r1 := by
  have hz := lt_of_c hc
  have hF := h.F_at z hc hL
  have hlen := goodB_len hg
  have hle := h.le
  have hl := h.len
  refine ⟨l0, l1.set z (rd l1 (z : Int) + 1), ?_, ⟨by rw [List.length_set]; exact hl, by rw [List.length_set]; omega, fun i => rd_set l1 z _ i hz, fun i => ?_, ?_⟩⟩
  · unfold F at hF
    have hw : wrap64 (rd l1 (z : Int) + 1) = rd l1 (z : Int) + 1 := wrap_ok _ (by have := h.nonneg z; omega) (by omega)
    unfold intern_Add.g
    rw [if_pos ⟨by omega, by omega, by omega⟩, hF]
    simp only [if_true]
    rw [if_pos ⟨by omega, by omega⟩, if_neg (by omega), hw, Int.toNat_natCast]
  · by_cases hi : i = z
    · subst hi; rw [if_pos rfl, hL]
    · rw [if_neg hi]
  · have := count_set l1 z (rd l1 (z : Int) + 1) hz
    have h0 := h.nonneg z
    rw [if_neg hc, if_neg (by omega)] at this
    rw [if_neg hc]
    omega
theorem add_most (h : FitT l0 l1) (hg : goodB l = true) (hc : rd l1 (z : Int) ≠ 0) (hL : rd_L3 l0 (z : Int) = l) (hm : rd l1 (z : Int) = 1073741824) :
    intern_Add.g l0 l1 l = some (l0, l1, 0, 13) := by
  have hz := lt_of_c hc
  have hF := h.F_at z hc hL
  have hlen := goodB_len hg
  have hle := h.le
  have hl := h.len
  unfold F at hF
  unfold intern_Add.g
  rw [if_pos ⟨by omega, by omega, by omega⟩, hF]
  simp only [if_true]
  rw [if_pos ⟨by omega, by omega⟩, if_pos hm]
theorem add_full (h : FitT l0 l1) (hg : goodB l = true) (hF : F l0 l1 l = (0, false)) (hf : freeFrom l1 0 = 64) :
    intern_Add.g l0 l1 l = some (l0, l1, 0, 6) := by
  have hlen := goodB_len hg
  have hle := h.le
  have hl := h.len
  unfold F at hF
  unfold intern_Add.g
  rw [if_pos ⟨by omega, by omega, by omega⟩, hF]
  simp [hf]
theorem add_new (h : FitT l0 l1) (hg : goodB l = true) (hF : F l0 l1 l = (0, false)) (hf : freeFrom l1 0 ≠ 64) :
    ∃ r0 r1, intern_Add.g l0 l1 l = some (r0, r1, ((freeFrom l1 0 : Nat) : Int), 0) ∧ Put l0 l1 l (freeFrom l1 0) r0 r1 := by
  have hlen := goodB_len hg
  have hle := h.le
  have hl := h.len
  have hfl := (freeFrom_le l1 0).2
  have hz0 := free_zero l1
  unfold F at hF
  by_cases he : freeFrom l1 0 = l1.length
  · refine ⟨l0 ++ [l], l1 ++ [1], ?_, ⟨by simp [hl], by simp; omega, fun i => ?_, fun i => ?_, ?_⟩⟩
    · unfold intern_Add.g
      rw [if_pos ⟨by omega, by omega, by omega⟩, hF]
      simp only [Bool.false_eq_true, if_false, if_neg hf, if_pos he, if_pos (show l1.length ≤ l0.length by omega)]
      have e0 : (l0 ++ [[]]).set l1.length l = l0 ++ [l] := by rw [← hl]; simp
      have e1 : (l1 ++ [0]).set l1.length 1 = l1 ++ [1] := by simp
      rw [e0, e1, he]
    · rw [rd_app, he, ← he, hz0, he]
      rfl
    · rw [rdL_app, hl, he]
    · rw [used_app, hz0]
      rfl
  · have hlt : freeFrom l1 0 < l1.length := by omega
    refine ⟨l0.set (freeFrom l1 0) l, l1.set (freeFrom l1 0) 1, ?_, ⟨by simp [hl], by simp; omega, fun i => ?_, fun i => rdL_set l0 _ l i (by omega), ?_⟩⟩
    · unfold intern_Add.g
      rw [if_pos ⟨by omega, by omega, by omega⟩, hF]
      simp only [Bool.false_eq_true, if_false, if_neg hf, if_neg he, if_pos (show freeFrom l1 0 < l0.length by omega)]
    · rw [rd_set l1 _ 1 i hlt, hz0]
      rfl
    · have := count_set l1 (freeFrom l1 0) 1 hlt
      rw [hz0] at this ⊢
      simp at this ⊢
      omega
theorem Put.fit (h : FitT l0 l1) (hp : Put l0 l1 l z r0 r1) (hg : goodB l = true) (hz : z < 64) (hle : z ≤ l1.length) (hc : rd l1 (z : Int) < 1073741824)
    (hu : (rd l1 (z : Int) ≠ 0 ∧ rd_L3 l0 (z : Int) = l) ∨ (rd l1 (z : Int) = 0 ∧ ∀ i : Nat, rd l1 (i : Int) ≠ 0 → rd_L3 l0 (i : Int) ≠ l)) : FitT r0 r1 := by
  have hn := hp.n
  have hlel := h.le
  have h0 := h.nonneg z
  refine ⟨hp.len, by omega, fun n hn1 => ?_, fun i hi => ?_, fun i j hi hj hci hcj he => ?_⟩
  · rw [hp.c]
    by_cases hnz : n = z
    · rw [if_pos hnz]; omega
    · rw [if_neg hnz]
      exact h.last n (by omega)
  · rw [hp.c, hp.L]
    by_cases hiz : i = z
    · rw [if_pos hiz, if_pos hiz]
      exact ⟨by omega, by omega, hg, fun he => by omega⟩
    · rw [if_neg hiz, if_neg hiz]
      exact h.each i (by omega)
  · rw [hp.c] at hci hcj
    rw [hp.L, hp.L] at he
    by_cases hiz : i = z
    · by_cases hjz : j = z
      · omega
      · rw [if_pos hiz, if_neg hjz] at he
        rw [if_neg hjz] at hcj
        rcases hu with ⟨h1, h2⟩ | ⟨h1, h2⟩
        · have := h.uniq z j (lt_of_c h1) (lt_of_c hcj) h1 hcj (by rw [h2, he])
          omega
        · exact absurd he.symm (h2 j hcj)
    · by_cases hjz : j = z
      · rw [if_neg hiz, if_pos hjz] at he
        rw [if_neg hiz] at hci
        rcases hu with ⟨h1, h2⟩ | ⟨h1, h2⟩
        · have := h.uniq i z (lt_of_c hci) (lt_of_c h1) hci h1 (by rw [h2, he])
          omega
        · exact absurd he (h2 i hci)
      · rw [if_neg hiz, if_neg hjz] at he
        rw [if_neg hiz] at hci
        rw [if_neg hjz] at hcj
        exact h.uniq i j (lt_of_c hci) (lt_of_c hcj) hci hcj he
/-! ### dropping -/
theorem trim_spec (l : List Int) (m : Nat) : (∀ i : Nat, trimTo l m ≤ i → i < m → rd l (i : Int) = 0) ∧ (∀ n, trimTo l m = n + 1 → rd l (n : Int) ≠ 0) := by
  induction m with
  | zero => exact ⟨fun i _ h => by omega, fun n h => by simp [trimTo] at h⟩
  | succ m ih =>
    unfold trimTo
    by_cases h : rd l (m : Int) = 0
    · rw [if_pos h]
      refine ⟨fun i h1 h2 => ?_, ih.2⟩
      rcases Nat.lt_or_ge i m with h3 | h3
      · exact ih.1 i h1 h3
      · rw [show i = m by omega]; exact h
    · rw [if_neg h]
      exact ⟨fun i h1 h2 => by omega, fun n hn => by rw [show n = m by omega]; exact h⟩
theorem drop_ok (h : FitT l0 l1) (hc : rd l1 (z : Int) ≠ 0) : ∃ r0 r1, intern_Drop.f l0 l1 (z : Int) = some (r0, r1, 0) ∧ FitT r0 r1 ∧
    (∀ i : Nat, rd r1 (i : Int) = if i = z then rd l1 (z : Int) - 1 else rd l1 (i : Int)) ∧ (∀ i : Nat, rd_L3 r0 (i : Int) = if i = z ∧ rd l1 (z : Int) = 1 then [] else rd_L3 l0 (i : Int)) := by
  have hz := lt_of_c hc
  have hle := h.le
  have hl := h.len
  have h0 := h.nonneg z
  obtain ⟨hn, hN⟩ : ∃ n, rd l1 (z : Int) = n := ⟨_, rfl⟩
  have hub := (h.each z hz).2.1
  have hw : wrap64 (rd l1 (z : Int) - 1) = rd l1 (z : Int) - 1 := wrap_ok _ (by omega) (by omega)
  obtain ⟨cc, hcc⟩ : ∃ c, rd l1 (z : Int) - 1 = c := ⟨_, rfl⟩
  obtain ⟨T, hT⟩ : ∃ t, trimTo (l1.set z cc) l1.length = t := ⟨_, rfl⟩
  have hTl : T ≤ l1.length := hT ▸ trimTo_le _ _
  obtain ⟨hT1, hT2⟩ := trim_spec (l1.set z cc) l1.length
  rw [hT] at hT1 hT2
  have hcz : ∀ i : Nat, rd (l1.set z cc) (i : Int) = if i = z then cc else rd l1 (i : Int) := fun i => rd_set l1 z cc i hz
  have hLz : ∀ i : Nat, rd_L3 (dropLabs l0 z cc) (i : Int) = if i = z ∧ cc = 0 then [] else rd_L3 l0 (i : Int) := fun i => by
    unfold dropLabs
    by_cases hc0 : cc = 0
    · rw [if_pos hc0, rdL_set l0 z [] i (by omega)]
      by_cases hi : i = z
      · rw [if_pos hi, if_pos ⟨hi, hc0⟩]
      · rw [if_neg hi, if_neg (fun q => hi q.1)]
    · rw [if_neg hc0, if_neg (fun q => hc0 q.2)]
  have hdl : (dropLabs l0 z cc).length = l0.length := by unfold dropLabs; split <;> simp
  have hzero : ∀ i : Nat, rd (l1.set z cc) (i : Int) = 0 → rd_L3 (dropLabs l0 z cc) (i : Int) = [] := fun i hi => by
    rw [hLz]
    rw [hcz] at hi
    by_cases hiz : i = z
    · rw [if_pos hiz] at hi
      rw [if_pos ⟨hiz, hi⟩]
    · rw [if_neg hiz] at hi
      rw [if_neg (fun q => hiz q.1)]
      exact h.zero i hi
  have hcT : ∀ i : Nat, rd ((l1.set z cc).take T) (i : Int) = rd (l1.set z cc) (i : Int) := fun i => by
    rw [rd_take]
    by_cases hi : i < T
    · rw [if_pos hi]
    · rw [if_neg hi]
      rcases Nat.lt_or_ge i l1.length with h3 | h3
      · exact (hT1 i (by omega) h3).symm
      · exact (rd_out _ _ (by simpa using h3)).symm
  have hLT : ∀ i : Nat, rd_L3 ((dropLabs l0 z cc).take T) (i : Int) = rd_L3 (dropLabs l0 z cc) (i : Int) := fun i => by
    rw [rdL_take]
    by_cases hi : i < T
    · rw [if_pos hi]
    · rw [if_neg hi]
      rcases Nat.lt_or_ge i l1.length with h3 | h3
      · exact (hzero i (hT1 i (by omega) h3)).symm
      · exact (rdL_out _ _ (by rw [hdl]; omega)).symm
  have hlen1 : ((l1.set z cc).take T).length = T := by simp; omega
  have hlen0 : ((dropLabs l0 z cc).take T).length = T := by rw [List.length_take, hdl]; omega
  refine ⟨(dropLabs l0 z cc).take T, (l1.set z cc).take T, ?_, ⟨by rw [hlen0, hlen1], by omega, fun n hn1 => ?_, fun i hi => ?_, fun i j hi hj hci hcj he => ?_⟩, fun i => by rw [hcT, hcz, hcc], fun i => ?_⟩
  · unfold intern_Drop.f
    rw [if_pos ⟨by omega, by omega, hc⟩, Int.toNat_natCast, hw, hcc]
    unfold intern_Drop.g
    rw [hT, if_pos ⟨by omega, by omega, fun _ => by omega, by omega⟩]
  · rw [hcT]
    exact hT2 n (by omega)
  · rw [hcT, hLT]
    refine ⟨?_, ?_, ?_, hzero i⟩
    · rw [hcz]
      split
      · omega
      · exact h.nonneg i
    · rw [hcz]
      split
      · omega
      · exact (h.each i (by omega)).2.1
    · rw [hLz]
      split
      · exact good_nil
      · exact (h.each i (by omega)).2.2.1
  · rw [hcT, hcz] at hci hcj
    rw [hLT, hLT, hLz, hLz] at he
    have hx : ∀ k : Nat, (if k = z then cc else rd l1 (k : Int)) ≠ 0 → ¬ (k = z ∧ cc = 0) ∧ rd l1 (k : Int) ≠ 0 := fun k hk => by
      by_cases hkz : k = z
      · rw [if_pos hkz] at hk
        exact ⟨fun q => hk q.2, by rw [hkz]; exact hc⟩
      · rw [if_neg hkz] at hk
        exact ⟨fun q => hkz q.1, hk⟩
    obtain ⟨a1, a2⟩ := hx i hci
    obtain ⟨b1, b2⟩ := hx j hcj
    rw [if_neg a1, if_neg b1] at he
    exact h.uniq i j (lt_of_c a2) (lt_of_c b2) a2 b2 he
  · rw [hLT, hLz]
    have : (cc = 0) ↔ (rd l1 (z : Int) = 1) := by omega
    simp only [this]
theorem Used_eq (hl : l0.length = l1.length) : intern_Used.f l0 l1 = some (used l1 : Int) := by
  unfold intern_Used.f used
  rw [liveTo_all hl]
theorem Add_eq (hg : goodB l = true) (k : Nat) (hk : 1001 ≤ k) : intern_Add.f k l0 l1 l = intern_Add.g l0 l1 l := by
  unfold intern_Add.f
  rw [good_eq l (by have := goodB_len hg; omega) k hk, hg]
  rfl
/-- Chapter 5's examples. -/
theorem awake (k : Nat) (hk : 1001 ≤ k) : curtilagelaw05_awake.f k = some true := by
  have hg := good_nil
  have hF0 : F [] [] [] = (0, false) := rfl
  have e1 : intern_Add.f k [] [] [] = some ([[]], [1], 0, 0) := by rw [Add_eq hg k hk]; rfl
  have e2 : intern_Add.f k [[]] [1] [] = some ([[]], [2], 0, 0) := by rw [Add_eq hg k hk]; exact (show intern_Add.g [[]] [1] [] = some ([[]], [1].set 0 (wrap64 (1 + 1)), 0, 0) from rfl).trans (by rw [wrap_ok (1 + 1) (by omega) (by omega)]; rfl)
  unfold curtilagelaw05_awake.f
  rw [e1]
  simp only [Option.bind_some]
  rw [e2]
  rfl
end Tb
end Go.Proofs.Ytfoagjdcgipcaaa.X
