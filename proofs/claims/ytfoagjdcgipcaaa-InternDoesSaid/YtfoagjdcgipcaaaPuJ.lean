/- Plain laws: what intern's and the reference's Drop, Get and Used tell of a table are the same. -/
import Derived.Test.YtfoagjdcgipcaaaPuI
import Derived.Test.YtfoagjdcgipcaaaXx13
namespace Go.Proofs.Ytfoagjdcgipcaaa.X
open Go.RowKit Go.Proofs.YtfoagjdcgipcaaaW.PrintWords Go.Proofs.YtfoagjdcgipcaaaW.PrintLast
set_option linter.unusedVariables false
set_option linter.unusedSimpArgs false
namespace Tb
theorem rThere (l0 : List (List S57)) (l1 : List Int) (a : Int) : curtilageref05_there.f l0 l1 a = some (decide (0 ≤ a ∧ a < l1.length ∧ rd l1 a ≠ 0)) := by
  unfold curtilageref05_there.f
  by_cases h0 : a ≥ 0
  · rw [if_pos h0]
    by_cases h1 : a < (l1.length : Int)
    · rw [if_pos h1, if_pos (by omega)]
      by_cases h2 : rd l1 a = 0
      · simp [h2]
      · have : 0 ≤ a := h0
        simp [h2, h1, this]
    · rw [if_neg h1]
      simp [h1]
  · rw [if_neg h0]
    have : ¬ 0 ≤ a := h0
    simp [this]
theorem rGet (l0 : List (List S57)) (l1 : List Int) (a : Int) (h : FitT l0 l1) (hs : ∀ i : Nat, (rd_L3 l0 (i : Int)).length ≤ 1000) : curtilageref05_Get.f l0 l1 a = intern_Get.f l0 l1 a := by
  have hl := h.len
  unfold curtilageref05_Get.f intern_Get.f
  rw [rThere, Option.bind_some]
  by_cases hh : 0 ≤ a ∧ a < l1.length ∧ rd l1 a ≠ 0
  · obtain ⟨z, rfl⟩ : ∃ z : Nat, a = (z : Int) := ⟨a.toNat, by omega⟩
    have hz := hs z
    have hcl : slices_ClonePair.f (rd_L3 l0 (z : Int)) = some (rd_L3 l0 (z : Int)) := by unfold slices_ClonePair.f; rw [if_pos (by omega)]
    rw [if_pos (decide_eq_true hh), if_pos hh, if_pos hh.1, if_pos (by omega), if_pos (by omega), hcl]
    rfl
  · rw [if_neg (by simpa using hh), if_neg hh]
theorem rused_l0 (l0 : List (List S57)) (l1 : List Int) (hm : l1.length ≤ 1000) (d : Nat) : ∀ (k i n : Nat), i ≤ l1.length → l1.length - i = d → d + 1 ≤ k → n ≤ i →
    curtilageref05_Used.l0 k (n : Int) (i : Int) l0 l1 = some ((n + (l1.drop i).countP (fun c => c != 0) : Nat) : Int) := by
  induction d with
  | zero =>
    intro k i n h1 h2 hk hn
    obtain ⟨k, rfl⟩ : ∃ m, k = m + 1 := ⟨k - 1, by omega⟩
    rw [curtilageref05_Used.l0, if_neg (by omega), List.drop_eq_nil_of_le (by omega)]
    rfl
  | succ d ih =>
    intro k i n h1 h2 hk hn
    obtain ⟨k, rfl⟩ : ∃ m, k = m + 1 := ⟨k - 1, by omega⟩
    have ha : i < l1.length := by omega
    have ra : rd l1 (i : Int) = l1[i] := by simp [rd, List.getD_eq_getElem?_getD, ha]
    rw [curtilageref05_Used.l0, if_pos (by omega), if_pos (by omega), ra, wrap_nat i (by omega), wrap_nat n (by omega), List.drop_eq_getElem_cons ha, List.countP_cons]
    by_cases hz : l1[i] = 0
    · rw [if_pos hz, ih k (i + 1) n (by omega) (by omega) (by omega) (by omega), if_neg (by simp [hz])]
      rfl
    · rw [if_neg hz, ih k (i + 1) (n + 1) (by omega) (by omega) (by omega) (by omega), if_pos (by simp [hz])]
      congr 2
      omega
theorem rUsed (l0 : List (List S57)) (l1 : List Int) (hm : l1.length ≤ 1000) (k : Nat) (hk : 1001 ≤ k) : curtilageref05_Used.f k l0 l1 = some (used l1 : Int) := by
  have := rused_l0 l0 l1 hm l1.length k 0 0 (by omega) (by omega) (by omega) (by omega)
  unfold curtilageref05_Used.f
  rw [List.drop_zero, Nat.zero_add, ← used_eq] at this
  exact this
theorem rdrop_l0 (L : List (List S57)) (C : List Int) (hl : L.length = C.length) (hm : C.length ≤ 1000) : ∀ (d k : Nat), d ≤ C.length → d + 1 ≤ k →
    curtilageref05_Drop.l0 k (d : Int) L C = some (L.take (trimTo C d), C.take (trimTo C d), 0) := by
  intro d
  induction d with
  | zero =>
    intro k h1 hk
    obtain ⟨k, rfl⟩ : ∃ m, k = m + 1 := ⟨k - 1, by omega⟩
    rw [curtilageref05_Drop.l0, if_neg (by omega), if_pos (by omega), if_pos (by omega), if_pos (by omega)]
    rfl
  | succ d ih =>
    intro k h1 hk
    obtain ⟨k, rfl⟩ : ∃ m, k = m + 1 := ⟨k - 1, by omega⟩
    have hw : wrap64 (((d + 1 : Nat) : Int) - 1) = (d : Int) := by rw [wrap_ok _ (by omega) (by omega)]; omega
    rw [curtilageref05_Drop.l0, if_pos (by omega), hw, if_pos (by omega), if_pos (by omega), trimTo]
    by_cases hz : rd C (d : Int) = 0
    · rw [if_pos hz, if_pos hz, ih k (by omega) (by omega)]
    · rw [if_neg hz, if_neg hz, if_pos (by omega), if_pos (by omega), if_pos (by omega), Int.toNat_natCast]
theorem rDrop (l0 : List (List S57)) (l1 : List Int) (a : Int) (h : FitT l0 l1) (k : Nat) (hk : 3000 ≤ k) : curtilageref05_Drop.f k l0 l1 a = intern_Drop.f l0 l1 a := by
  have hle := h.le
  have hl := h.len
  obtain ⟨k, rfl⟩ : ∃ m, k = m + 1 := ⟨k - 1, by omega⟩
  unfold curtilageref05_Drop.f intern_Drop.f
  rw [rThere, Option.bind_some]
  by_cases hh : 0 ≤ a ∧ a < l1.length ∧ rd l1 a ≠ 0
  · obtain ⟨z, rfl⟩ : ∃ z : Nat, a = (z : Int) := ⟨a.toNat, by omega⟩
    have hz : z < l1.length := by omega
    have hcp : curtilageref05_copied.f l0 l1 = some (l0, l1) := by
      unfold curtilageref05_copied.f
      rw [if_pos (by simp; omega), if_pos (by simp; omega)]
      simp
    rw [if_pos (decide_eq_true hh), if_pos hh, hcp, Option.bind_some]
    dsimp only
    rw [if_pos (by omega), if_pos (by omega), Option.bind_some, Int.toNat_natCast]
    generalize wrap64 (rd l1 (z : Int) - 1) = cc
    have hrd : rd (l1.set z cc) (z : Int) = cc := by rw [rd_set l1 z cc z hz, if_pos rfl]
    rw [hrd]
    have hT := trimTo_le (l1.set z cc) l1.length
    unfold intern_Drop.g dropLabs
    by_cases hc : cc = 0
    · rw [if_pos hc, if_pos (by omega), curtilageref05_Drop.j0, rdrop_l0 (l0.set z []) (l1.set z cc) (by simp; omega) (by simp; omega) _ k (Nat.le_refl _) (by simp; omega), List.length_set, if_pos ⟨by omega, by omega, fun _ => by omega, by omega⟩, if_pos hc]
    · rw [if_neg hc, curtilageref05_Drop.j0, rdrop_l0 l0 (l1.set z cc) (by simp; omega) (by simp; omega) _ k (Nat.le_refl _) (by simp; omega), List.length_set, if_pos ⟨by omega, by omega, fun e => absurd e hc, by omega⟩, if_neg hc]
  · rw [if_neg (by simpa using hh), if_neg hh]
end Tb
end Go.Proofs.Ytfoagjdcgipcaaa.X
