/- Plain laws: labels as words, the reference's and the program's. -/
import Derived.Test.YtjcjfeoipcbdoaaDoorPuCodecTexts
import Derived.Test.YtjcjfeoipcbdoaaDoorXx6
namespace Go.Proofs.YtjcjfeoipcbdoaaDoor.X
open Go.RowKit Go.Proofs.YtjcjfeoipcbdoaaDoorW.PrintWords
set_option linter.unusedVariables false
set_option linter.unusedSimpArgs false
def pairW (p : S47) : List Int := [p.f0, p.f1]
/-- A label's words. -/
def wordsL (l : List S47) : List Int := if fitL l = true then (l.length : Int) :: l.flatMap pairW else []
theorem flat_len (l : List S47) : (l.flatMap pairW).length = 2 * l.length := by
  induction l with
  | nil => rfl
  | cons p l ih => rw [List.flatMap_cons, List.length_append, ih, List.length_cons]; show 2 + _ = _; omega
theorem take_flat (l : List S47) (i : Nat) (h : i < l.length) : (l.take (i + 1)).flatMap pairW = (l.take i).flatMap pairW ++ pairW (l[i]'h) := by
  rw [List.take_succ_eq_append_getElem h, List.flatMap_append]
  simp
theorem cw_l (l : List S47) (hf : fitL l = true) (hl : l.length < 1000000) : ∀ (d i k : Nat), i + d = l.length → d < k →
    codec_Words.l0 k ((l.length : Int) :: (l.take i).flatMap pairW) l (l.length : Int) (i : Int) = some ((l.length : Int) :: l.flatMap pairW) := by
  intro d
  induction d with
  | zero =>
    intro i k hi hk
    obtain ⟨k, rfl⟩ : ∃ m, k = m + 1 := ⟨k - 1, by omega⟩
    obtain rfl : i = l.length := by omega
    simp only [codec_Words.l0]
    rw [if_neg (by omega), List.take_length]
  | succ d ih =>
    intro i k hi hk
    obtain ⟨k, rfl⟩ : ∃ m, k = m + 1 := ⟨k - 1, by omega⟩
    have hlt : i < l.length := by omega
    have h1 := fitL_at hf i hlt
    have htk := take_flat l i hlt
    have hlen := flat_len (l.take i)
    rw [List.length_take] at hlen
    have ih := ih (i + 1) k (by omega) (by omega)
    simp only [codec_Words.l0]
    rw [if_pos (by omega), if_pos (by omega), if_pos (by omega), rd47_at l i hlt, Option.bind_some]
    rw [show IntKind.u64.wrap (l[i]'hlt).f1 = (l[i]'hlt).f1 by rw [IntKind.wrap_u64]; omega]
    rw [if_pos (by rw [List.length_cons, hlen]; simp only [List.length_cons, List.length_nil]; omega), show wrap64 ((i : Int) + 1) = ((i + 1 : Nat) : Int) by unfold wrap64; omega]
    rw [htk] at ih
    exact ih
theorem codec_Words_val (K : Nat) (l : List S47) (hl : l.length < 1000000) (hK : l.length + 1 ≤ K) : codec_Words.f K l = some (wordsL l) := by
  unfold codec_Words.f wordsL
  rw [label_val l (by omega) K (by omega), Option.bind_some]
  by_cases hf : fitL l = true
  · rw [if_pos hf, if_pos hf, show IntKind.u64.wrap (l.length : Int) = (l.length : Int) by rw [IntKind.wrap_u64]; omega]
    exact cw_l l hf hl l.length 0 K (by omega) (by omega)
  · rw [if_neg hf, if_neg hf]
theorem rw_l (l : List S47) (hf : fitL l = true) (hl : l.length < 1000000) : ∀ (d i k : Nat), i + d = l.length → d < k →
    curtilageref04_Words.l0 k l ((l.length : Int) :: (l.take i).flatMap pairW) (i : Int) = some ((l.length : Int) :: l.flatMap pairW) := by
  intro d
  induction d with
  | zero =>
    intro i k hi hk
    obtain ⟨k, rfl⟩ : ∃ m, k = m + 1 := ⟨k - 1, by omega⟩
    obtain rfl : i = l.length := by omega
    simp only [curtilageref04_Words.l0]
    rw [if_neg (by omega), List.take_length]
  | succ d ih =>
    intro i k hi hk
    obtain ⟨k, rfl⟩ : ∃ m, k = m + 1 := ⟨k - 1, by omega⟩
    have hlt : i < l.length := by omega
    have h1 := fitL_at hf i hlt
    have htk := take_flat l i hlt
    have hlen := flat_len (l.take i)
    rw [List.length_take] at hlen
    have ih := ih (i + 1) k (by omega) (by omega)
    simp only [curtilageref04_Words.l0]
    rw [if_pos (by omega), if_pos (by omega), rd47_at l i hlt, Option.bind_some]
    rw [show IntKind.u64.wrap (l[i]'hlt).f1 = (l[i]'hlt).f1 by rw [IntKind.wrap_u64]; omega]
    rw [if_pos (by rw [List.length_cons, hlen]; simp only [List.length_cons, List.length_nil]; omega), show wrap64 ((i : Int) + 1) = ((i + 1 : Nat) : Int) by unfold wrap64; omega]
    rw [htk] at ih
    exact ih
theorem ref_Words_val (K : Nat) (l : List S47) (hl : l.length < 1000000) (hK : l.length + 1 ≤ K) : curtilageref04_Words.f K l = some (wordsL l) := by
  unfold curtilageref04_Words.f wordsL
  rw [ref_val l (by omega) K (by omega), Option.bind_some]
  by_cases hf : fitL l = true
  · rw [if_pos hf, if_pos hf, if_pos (by decide), show IntKind.u64.wrap (l.length : Int) = (l.length : Int) by rw [IntKind.wrap_u64]; omega]
    exact rw_l l hf hl l.length 0 K (by omega) (by omega)
  · rw [if_neg hf, if_neg hf]
theorem wordsL_len (l : List S47) : (wordsL l).length ≤ 2 * l.length + 1 := by
  unfold wordsL
  split
  · rw [List.length_cons, flat_len]; omega
  · simp
theorem sw_l (a : List Int) (ha : a.length < 9223372036854775807) : ∀ (d i k : Nat), i + d = a.length → d < k → curtilageref04_SameWords.l0 k a a (i : Int) = some true := by
  intro d
  induction d with
  | zero =>
    intro i k hi hk
    obtain ⟨k, rfl⟩ : ∃ m, k = m + 1 := ⟨k - 1, by omega⟩
    simp only [curtilageref04_SameWords.l0]
    rw [if_neg (by omega)]
  | succ d ih =>
    intro i k hi hk
    obtain ⟨k, rfl⟩ : ∃ m, k = m + 1 := ⟨k - 1, by omega⟩
    simp only [curtilageref04_SameWords.l0]
    rw [if_pos (by omega), if_pos (by omega), if_pos (by omega), if_pos trivial, show wrap64 ((i : Int) + 1) = ((i + 1 : Nat) : Int) by unfold wrap64; omega]
    exact ih (i + 1) k (by omega) (by omega)
theorem sameWords_self (K : Nat) (a : List Int) (ha : a.length < 9223372036854775807) (hK : a.length < K) : curtilageref04_SameWords.f K a a = some true := by
  unfold curtilageref04_SameWords.f
  rw [if_pos rfl]
  exact sw_l a ha a.length 0 K (by omega) hK
theorem rp_l (ws : List Int) (n : Nat) (hok : okW ws) (hn : n ≤ 16) (hlen : 2 * n < ws.length) (hws : ws.length < 1000000) : ∀ (d i k : Nat), i + d = n → d + 20 < k → levsW ws i = true →
    curtilageref04_Parse.l0 k ws (n : Int) (pairsW ws i) (i : Int) = some (if levsW ws n = true then (if fitL (pairsW ws n) = true then (pairsW ws n, 2 * (n : Int) + 1, 0) else ([], 0, 11)) else ([], 0, 11)) := by
  intro d
  induction d with
  | zero =>
    intro i k hi hk hlv
    obtain ⟨k, rfl⟩ : ∃ m, k = m + 1 := ⟨k - 1, by omega⟩
    obtain rfl : i = n := by omega
    simp only [curtilageref04_Parse.l0]
    have hpl := pairsW_length ws i
    rw [if_neg (by omega), ref_val _ (by omega) k (by omega), Option.bind_some, if_pos hlv]
    by_cases hf : fitL (pairsW ws i) = true
    · rw [if_pos hf, if_pos hf, show wrap64 (1 + wrap64 (2 * (i : Int))) = 2 * (i : Int) + 1 by unfold wrap64; omega]
    · rw [if_neg hf, if_neg hf]
  | succ d ih =>
    intro i k hi hk hlv
    obtain ⟨k, rfl⟩ : ∃ m, k = m + 1 := ⟨k - 1, by omega⟩
    simp only [curtilageref04_Parse.l0]
    rw [show wrap64 (2 + wrap64 (2 * (i : Int))) = ((2 * i + 2 : Nat) : Int) by unfold wrap64; omega, show wrap64 (1 + wrap64 (2 * (i : Int))) = ((2 * i + 1 : Nat) : Int) by unfold wrap64; omega, show wrap64 ((i : Int) + 1) = ((i + 1 : Nat) : Int) by unfold wrap64; omega]
    rw [if_pos (by omega), if_pos (by omega), if_pos (by omega)]
    have h2 := hok (2 * i + 2)
    have hls := levsW_succ ws i
    have hps := pairsW_succ ws i
    have hpl := pairsW_length ws i
    by_cases hg : rd ws ((2 * i + 2 : Nat) : Int) > 5
    · rw [if_pos hg]
      rw [decide_eq_false (by omega), Bool.and_false] at hls
      rw [if_neg (by rw [levsW_mono ws (i + 1) n (by omega) hls]; decide)]
    · rw [if_neg hg, if_pos (by omega), if_pos (by omega), if_pos (by omega)]
      rw [decide_eq_true (by omega), Bool.and_true, hlv] at hls
      rw [show wrap64 (rd ws ((2 * i + 2 : Nat) : Int)) = rd ws ((2 * i + 2 : Nat) : Int) by unfold wrap64; omega, ← hps]
      exact ih (i + 1) k (by omega) (by omega) hls
theorem ref_Parse_val (K : Nat) (hK : 60 ≤ K) (ws : List Int) (hok : okW ws) (hws : ws.length < 1000000) : curtilageref04_Parse.f K ws = some (parseR ws) := by
  obtain ⟨K, rfl⟩ : ∃ m, K = m + 1 := ⟨K - 1, by omega⟩
  unfold curtilageref04_Parse.f parseR wordsR
  by_cases h0 : ws.length = 0
  · rw [if_pos (by omega), if_pos h0]
    simp only [curtilageref04_Parse.j0]
    rw [if_pos trivial]
  · rw [if_neg (by omega), if_pos (by omega), if_neg h0]
    by_cases h1 : rd ws 0 > 16
    · rw [decide_eq_true h1, if_pos h1]
      simp only [curtilageref04_Parse.j0]
      rw [if_pos trivial]
    · rw [decide_eq_false h1, if_neg h1]
      have hk0 := (hok 0).1
      rw [show ((0 : Nat) : Int) = 0 from rfl] at hk0
      obtain ⟨n, hn⟩ : ∃ n : Nat, rd ws 0 = (n : Int) := ⟨(rd ws 0).toNat, by omega⟩
      rw [hn]
      simp only [curtilageref04_Parse.j0]
      rw [if_neg (by decide), if_pos (by omega), hn, show wrap64 (n : Int) = (n : Int) by unfold wrap64; omega, show wrap64 (1 + wrap64 (2 * (n : Int))) = 2 * (n : Int) + 1 by unfold wrap64; omega]
      by_cases h2 : (ws.length : Int) ≤ 2 * (n : Int)
      · rw [if_pos (by omega), if_pos h2]
      · rw [if_neg (by omega), if_neg h2, Int.toNat_natCast]
        have := rp_l ws n hok (by omega) (by omega) hws n 0 K (by omega) (by omega) rfl
        rw [show pairsW ws 0 = [] from rfl, show ((0 : Nat) : Int) = 0 from rfl] at this
        rw [this]
        by_cases hl : levsW ws n = true
        · rw [if_pos hl, if_pos hl]
          by_cases hf : fitL (pairsW ws n) = true
          · rw [if_pos hf, if_pos hf]
            simp only [pairsW_length]
          · rw [if_neg hf, if_neg hf]
        · rw [if_neg hl, if_neg hl]
theorem CodecWords_val (l0 : List S47) (ws : List Int) (hok : okB ws = true) : ∃ k, curtilagelaw04_CodecWords.f k l0 ws = some true := by
  refine ⟨4000, ?_⟩
  unfold curtilagelaw04_CodecWords.f
  by_cases hl : (l0.length : Int) > 40
  · rw [if_pos hl]
    simp only [curtilagelaw04_CodecWords.j0]
    rw [if_pos trivial, awake_val _ (by decide), Option.bind_some]
  · rw [if_neg hl]
    by_cases hs2 : (ws.length : Int) > 100
    · rw [decide_eq_true hs2]
      simp only [curtilagelaw04_CodecWords.j0]
      rw [if_pos trivial, awake_val _ (by decide), Option.bind_some]
    · rw [decide_eq_false hs2]
      simp only [curtilagelaw04_CodecWords.j0]
      have hrd : codec_Parse.f ws = some (parseR ws) := by unfold codec_Parse.f; rw [if_pos hok]
      have hlen := wordsL_len l0
      have hpl : (parseR ws).1.length ≤ 16 := by
        unfold parseR
        cases hw : wordsR ws with
        | none => simp
        | some l => exact wordsR_len hw (by have := (okB_W hok 0).1; simpa using this)
      rw [if_neg (by decide), hrd, Option.bind_some, ref_Parse_val 3999 (by decide) ws (okB_W hok) (by omega), Option.bind_some, codec_Words_val 3999 l0 (by omega) (by omega), Option.bind_some, ref_Words_val 3999 l0 (by omega) (by omega), Option.bind_some]
      rw [sameWords_self 3999 _ (by omega) (by omega), Option.bind_some, if_pos rfl, same_self 3999 _ (by omega) (by omega), Option.bind_some, if_pos rfl, if_pos rfl, if_pos rfl, awake_val _ (by decide), Option.bind_some]
end Go.Proofs.YtjcjfeoipcbdoaaDoor.X
