/- Plain laws: labels as texts, the reference's and the program's. -/
import Derived.Test.YtjcjfeoipcbdoaaDoorPuB
namespace Go.Proofs.YtjcjfeoipcbdoaaDoor.X
open Go.RowKit Go.Proofs.YtjcjfeoipcbdoaaDoorW.PrintWords
set_option linter.unusedVariables false
set_option linter.unusedSimpArgs false
def pieceB (p : S47) : ByteArray := (dgB p.f0.toNat ++ (⟨#[58]⟩ : ByteArray)) ++ signB p.f1.toNat
/-- A label's text. -/
def textB (l : List S47) : ByteArray := if fitL l = true then (if l.length = 0 then ⟨#[45]⟩ else joinB (l.map pieceB) ⟨#[44]⟩) else ⟨#[]⟩
/-- Categories are words. -/
def wfL (l : List S47) : Prop := ∀ (i : Nat) (h : i < l.length), 0 ≤ (l[i]'h).f0 ∧ (l[i]'h).f0 < 18446744073709551616
theorem rd47_at (l : List S47) (i : Nat) (h : i < l.length) : rd_T47 l (i : Int) = l[i]'h := by
  unfold rd_T47
  rw [Int.toNat_natCast, List.getD_eq_getElem?_getD, List.getElem?_eq_getElem h]
  rfl
theorem fitL_at {l : List S47} (hf : fitL l = true) (i : Nat) (h : i < l.length) : 0 ≤ (l[i]'h).f1 ∧ (l[i]'h).f1 ≤ 5 := by
  have := List.all_eq_true.1 hf i (List.mem_range.2 h)
  unfold fitAt at this
  simp only [Bool.and_eq_true, decide_eq_true_eq] at this
  rw [rd47_at l i h] at this
  exact this.1.1
theorem size_c (c : UInt8) : (⟨#[c]⟩ : ByteArray).size = 1 := rfl
theorem sign_size (n : Nat) : (signB n).size = 1 := rfl
theorem piece_size (p : S47) (h : 0 ≤ p.f0 ∧ p.f0 < 18446744073709551616) : (pieceB p).size ≤ 22 := by
  have := Lib.nDigits_le20 p.f0.toNat (by omega)
  unfold pieceB
  rw [ByteArray.size_append, ByteArray.size_append, sign_size, dgB_size, show (⟨#[58]⟩ : ByteArray).size = 1 from rfl]
  omega
theorem join_snoc (xs : List (List UInt8)) (y sep : List UInt8) (h : xs ≠ []) : Lib.join (xs ++ [y]) sep = Lib.join xs sep ++ sep ++ y := by
  cases xs with
  | nil => exact absurd rfl h
  | cons x r =>
    rw [List.cons_append, Lib.join_cons, Lib.join_cons]
    simp [Lib.joinTail, List.append_assoc]
theorem joinTail_le (r : List (List UInt8)) (h : ∀ x ∈ r, x.length ≤ 22) : (Lib.joinTail [44] r).length ≤ 23 * r.length := by
  induction r with
  | nil => simp [Lib.joinTail]
  | cons x r ih =>
    have h1 := h x (List.mem_cons_self ..)
    have h2 := ih (fun y hy => h y (List.mem_cons_of_mem _ hy))
    simp [Lib.joinTail] at h2 ⊢
    omega
theorem join_le (xs : List (List UInt8)) (h : ∀ x ∈ xs, x.length ≤ 22) : (Lib.join xs [44]).length ≤ 23 * xs.length := by
  cases xs with
  | nil => simp [Lib.join_nil]
  | cons x r =>
    have h1 := h x (List.mem_cons_self ..)
    have h2 := joinTail_le r (fun y hy => h y (List.mem_cons_of_mem _ hy))
    rw [Lib.join_cons, List.length_append, List.length_cons]
    omega
theorem joinB_one (x : ByteArray) : joinB [x] ⟨#[44]⟩ = x := by
  apply ba_ext
  show Lib.join [x.data.toList] [44] = _
  rw [Lib.join_one]
theorem joinB_snoc (xs : List ByteArray) (y : ByteArray) (h : xs ≠ []) : joinB (xs ++ [y]) ⟨#[44]⟩ = (joinB xs ⟨#[44]⟩ ++ (⟨#[44]⟩ : ByteArray)) ++ y := by
  apply ba_ext
  rw [app_data, app_data]
  show Lib.join ((xs ++ [y]).map (·.data.toList)) [44] = _
  rw [List.map_append, List.map_cons, List.map_nil, join_snoc _ _ _ (by simpa using h)]
  rfl
theorem joinB_size (l : List S47) (hw : wfL l) (i : Nat) (hi : i ≤ l.length) : (joinB ((l.take i).map pieceB) ⟨#[44]⟩).size ≤ 23 * i := by
  show (Lib.join (((l.take i).map pieceB).map (·.data.toList)) [44]).length ≤ _
  refine Nat.le_trans (join_le _ ?_) ?_
  · intro x hx
    obtain ⟨y, hy, rfl⟩ := List.mem_map.1 hx
    obtain ⟨p, hp, rfl⟩ := List.mem_map.1 hy
    obtain ⟨j, hj, rfl⟩ := List.mem_iff_getElem.1 (List.mem_of_mem_take hp)
    exact piece_size _ (hw j hj)
  · simp; omega
theorem take_succ_map (l : List S47) (i : Nat) (h : i < l.length) : (l.take (i + 1)).map pieceB = (l.take i).map pieceB ++ [pieceB (l[i]'h)] := by
  rw [List.take_succ_eq_append_getElem h, List.map_append]; rfl
theorem text_l (l : List S47) (hw : wfL l) (hf : fitL l = true) (hl : l.length < 1000000) : ∀ (d i k : Nat), i + d = l.length → d < k →
    codec_Text.l0 k ((l.take i).map pieceB) l (l.length : Int) (i : Int) = some (joinB (l.map pieceB) ⟨#[44]⟩) := by
  intro d
  induction d with
  | zero =>
    intro i k hi hk
    obtain ⟨k, rfl⟩ : ∃ m, k = m + 1 := ⟨k - 1, by omega⟩
    obtain rfl : i = l.length := by omega
    simp only [codec_Text.l0]
    rw [if_neg (by omega)]
    have hz := joinB_size l hw l.length (Nat.le_refl _)
    rw [List.take_length] at hz ⊢
    unfold strings_Join.f
    rw [if_pos ⟨by
      have : (joinB (l.map pieceB) ⟨#[44]⟩).size = (Lib.join ((l.map pieceB).map (·.data.toList)) [44]).length := rfl
      show (Lib.join ((l.map pieceB).map (·.data.toList)) [44]).length ≤ _
      omega, by rw [List.length_map]; omega⟩]
    rfl
  | succ d ih =>
    intro i k hi hk
    obtain ⟨k, rfl⟩ : ∃ m, k = m + 1 := ⟨k - 1, by omega⟩
    have hlt : i < l.length := by omega
    have h0 := hw i hlt
    have h1 := fitL_at hf i hlt
    have hz := piece_size _ h0
    have htk := take_succ_map l i hlt
    simp only [codec_Text.l0]
    rw [if_pos (by omega), if_pos (by omega), if_pos (by omega), rd47_at l i hlt]
    generalize l[i]'hlt = p at *
    rw [show pieceB p = (dgB p.f0.toNat ++ (⟨#[58]⟩ : ByteArray)) ++ signB p.f1.toNat from rfl] at hz htk
    have hfu : strconv_FormatUint.f p.f0 10 = some (dgB p.f0.toNat) := by unfold strconv_FormatUint.f; rw [if_pos ⟨h0.1, h0.2, rfl⟩]
    have hls : level_Text.f p.f1 = some (signB p.f1.toNat) := by
      have := level_sign p.f1.toNat (by omega)
      rwa [Int.toNat_of_nonneg h1.1] at this
    rw [hfu, Option.bind_some]
    have e1 : (dgB p.f0.toNat ++ (⟨#[58]⟩ : ByteArray)).size = (dgB p.f0.toNat).size + 1 := by rw [ByteArray.size_append]; rfl
    have e2 : (signB p.f1.toNat).size = 1 := rfl
    rw [ByteArray.size_append, e1, e2] at hz
    rw [if_pos (by omega), hls, Option.bind_some, if_pos (by rw [e1, e2]; omega), if_pos (by rw [List.length_map, List.length_take]; omega)]
    rw [show wrap64 ((i : Int) + 1) = ((i + 1 : Nat) : Int) by unfold wrap64; omega]
    have := ih (i + 1) k (by omega) (by omega)
    rw [htk] at this
    exact this
theorem codec_Text_val (K : Nat) (l : List S47) (hw : wfL l) (hl : l.length < 1000000) (hK : l.length + 1 ≤ K) : codec_Text.f K l = some (textB l) := by
  unfold codec_Text.f textB
  rw [label_val l (by omega) K (by omega), Option.bind_some]
  by_cases hf : fitL l = true
  · rw [if_pos hf, if_pos hf]
    by_cases h0 : l.length = 0
    · rw [if_pos h0, if_pos (by omega)]
    · rw [if_neg h0, if_neg (by omega)]
      exact text_l l hw hf hl l.length 0 K (by omega) (by omega)
  · rw [if_neg hf, if_neg hf]
/-- What the reference has behind some pairs. -/
def accB (l : List S47) (i : Nat) : ByteArray := if i = 0 then ⟨#[]⟩ else joinB ((l.take i).map pieceB) ⟨#[44]⟩
theorem rtext_l (l : List S47) (hw : wfL l) (hf : fitL l = true) (hl : l.length < 1000000) (hne : l.length ≠ 0) : ∀ (d i k : Nat), i + d = l.length → d + 40 < k →
    curtilageref04_Text.l0 k l (accB l i) (i : Int) = some (joinB (l.map pieceB) ⟨#[44]⟩) := by
  intro d
  induction d with
  | zero =>
    intro i k hi hk
    obtain ⟨k, rfl⟩ : ∃ m, k = m + 1 := ⟨k - 1, by omega⟩
    obtain rfl : i = l.length := by omega
    simp only [curtilageref04_Text.l0]
    rw [if_neg (by omega)]
    unfold accB
    rw [if_neg hne, List.take_length]
  | succ d ih =>
    intro i k hi hk
    obtain ⟨k, rfl⟩ : ∃ m, k = m + 1 := ⟨k - 1, by omega⟩
    have hlt : i < l.length := by omega
    have h0 := hw i hlt
    have h1 := fitL_at hf i hlt
    have hz := piece_size _ h0
    have hza := joinB_size l hw i (by omega)
    have htk := take_succ_map l i hlt
    have ih := ih (i + 1) k (by omega) (by omega)
    simp only [curtilageref04_Text.l0]
    rw [rd47_at l i hlt]
    have hacc : accB l (i + 1) = if i = 0 then pieceB (l[i]'hlt) else (accB l i ++ (⟨#[44]⟩ : ByteArray)) ++ pieceB (l[i]'hlt) := by
      unfold accB
      rw [if_neg (by omega), htk]
      by_cases hi0 : i = 0
      · subst hi0
        rw [if_pos rfl, List.take_zero, List.map_nil, List.nil_append, joinB_one]
      · rw [if_neg hi0, if_neg hi0, joinB_snoc _ _ (by
          intro e
          have := congrArg List.length e
          rw [List.length_map, List.length_take, List.length_nil] at this
          omega)]
    have hzacc : (accB l i).size ≤ 23 * i := by
      unfold accB
      by_cases hi0 : i = 0
      · rw [if_pos hi0]; simp [ByteArray.size]
      · rw [if_neg hi0]; exact hza
    rw [hacc] at ih
    generalize l[i]'hlt = p at *
    rw [show pieceB p = (dgB p.f0.toNat ++ (⟨#[58]⟩ : ByteArray)) ++ signB p.f1.toNat from rfl] at hz ih
    have hfu : curtilageref04_Digits.f k p.f0 = some (dgB p.f0.toNat) := by
      have := rDigits k (by omega) p.f0.toNat (by omega)
      rwa [Int.toNat_of_nonneg h0.1] at this
    have hls : curtilageref01_Text.f p.f1 = some (signB p.f1.toNat) := by
      have := r01Text p.f1.toNat (by omega)
      rwa [Int.toNat_of_nonneg h1.1] at this
    have e1 : (dgB p.f0.toNat ++ (⟨#[58]⟩ : ByteArray)).size = (dgB p.f0.toNat).size + 1 := by rw [ByteArray.size_append]; rfl
    have e2 : (signB p.f1.toNat).size = 1 := rfl
    rw [ByteArray.size_append, e1, e2] at hz
    have hA0 : i = 0 → accB l i = ⟨#[]⟩ := fun h => by unfold accB; rw [if_pos h]
    clear hacc hza htk e1 hw hf
    generalize dgB p.f0.toNat = D at *
    generalize signB p.f1.toNat = S at *
    generalize accB l i = A at *
    rw [if_pos (by omega)]
    have hwr : wrap64 ((i : Int) + 1) = ((i + 1 : Nat) : Int) := by unfold wrap64; omega
    by_cases hi0 : i = 0
    · rw [if_neg (by omega), if_pos (by omega), hfu, Option.bind_some, hls]
      rw [if_pos (by omega), if_pos (by rw [ByteArray.size_append]; omega), Option.bind_some]
      rw [if_pos (by simp only [ByteArray.size_append, e2, size_c]; omega), hwr]
      rw [if_pos hi0] at ih
      refine (congrArg (fun z => curtilageref04_Text.l0 k l z ((i + 1 : Nat) : Int)) ?_).trans ih
      apply ba_ext
      rw [hA0 hi0]
      simp [app_data]
    · rw [if_pos (by omega), if_pos (by omega), if_pos (by omega), hfu, Option.bind_some, hls]
      rw [if_pos (by simp only [ByteArray.size_append, size_c]; omega), if_pos (by simp only [ByteArray.size_append, size_c]; omega), Option.bind_some]
      rw [if_pos (by simp only [ByteArray.size_append, e2, size_c]; omega), hwr]
      rw [if_neg hi0] at ih
      refine (congrArg (fun z => curtilageref04_Text.l0 k l z ((i + 1 : Nat) : Int)) ?_).trans ih
      apply ba_ext
      simp [app_data]
theorem ref_Text_val (K : Nat) (l : List S47) (hw : wfL l) (hl : l.length < 1000000) (hK : l.length + 50 ≤ K) : curtilageref04_Text.f K l = some (textB l) := by
  unfold curtilageref04_Text.f textB
  rw [ref_val l (by omega) K (by omega), Option.bind_some]
  by_cases hf : fitL l = true
  · rw [if_pos hf, if_pos hf]
    by_cases h0 : l.length = 0
    · rw [if_pos h0, if_pos (by omega)]
    · rw [if_neg h0, if_neg (by omega)]
      exact rtext_l l hw hf hl h0 l.length 0 K (by omega) (by omega)
  · rw [if_neg hf, if_neg hf]
theorem same_l (a : List S47) (ha : a.length < 9223372036854775807) : ∀ (d i k : Nat), i + d = a.length → d < k → curtilageref02_Same.l0 k a a (i : Int) = some true := by
  intro d
  induction d with
  | zero =>
    intro i k hi hk
    obtain ⟨k, rfl⟩ : ∃ m, k = m + 1 := ⟨k - 1, by omega⟩
    simp only [curtilageref02_Same.l0]
    rw [if_neg (by omega)]
  | succ d ih =>
    intro i k hi hk
    obtain ⟨k, rfl⟩ : ∃ m, k = m + 1 := ⟨k - 1, by omega⟩
    simp only [curtilageref02_Same.l0]
    rw [if_pos (by omega), if_pos (by omega), if_pos (by omega), if_neg (by simp), show wrap64 ((i : Int) + 1) = ((i + 1 : Nat) : Int) by unfold wrap64; omega]
    exact ih (i + 1) k (by omega) (by omega)
theorem same_self (K : Nat) (a : List S47) (ha : a.length < 9223372036854775807) (hK : a.length < K) : curtilageref02_Same.f K a a = some true := by
  unfold curtilageref02_Same.f
  rw [if_pos rfl]
  exact same_l a ha a.length 0 K (by omega) hK
end Go.Proofs.YtjcjfeoipcbdoaaDoor.X
