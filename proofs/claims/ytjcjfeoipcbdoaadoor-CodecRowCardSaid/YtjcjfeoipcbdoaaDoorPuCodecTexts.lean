/- Plain law of CodecTexts. -/
import Derived.Test.YtjcjfeoipcbdoaaDoorPuC
import Derived.Test.YtjcjfeoipcbdoaaDoorXx5
namespace Go.Proofs.YtjcjfeoipcbdoaaDoor.X
open Go.RowKit Go.Proofs.YtjcjfeoipcbdoaaDoorW.PrintWords
set_option linter.unusedVariables false
set_option linter.unusedSimpArgs false
theorem dg7 : dgB 7 = ⟨#[55]⟩ := by unfold dgB; rw [Lib.decDigits_one (by decide)]; rfl
theorem dg9 : dgB 9 = ⟨#[57]⟩ := by unfold dgB; rw [Lib.decDigits_one (by decide)]; rfl
theorem awake_dash : textR (⟨#[45]⟩ : ByteArray) = (0, []) := by
  unfold textR
  rw [if_pos (by rw [ByteArray.toList_eq]; rfl)]
theorem awake_bad : (textR (⟨#[57, 58, 42, 44, 55, 58, 51]⟩ : ByteArray)).1 = 11 := by
  have h97 : (pairsR (splitB 44 (⟨#[57, 58, 42, 44, 55, 58, 51]⟩ : ByteArray))) = [⟨9, (pairR ⟨#[57, 58, 42]⟩).1.f1⟩, ⟨7, (pairR ⟨#[55, 58, 51]⟩).1.f1⟩] := by rfl
  have hf : fitL (pairsR (splitB 44 (⟨#[57, 58, 42, 44, 55, 58, 51]⟩ : ByteArray))) = false := by
    rw [h97]
    unfold fitL
    rw [List.all_eq_false]
    refine ⟨1, by simp, ?_⟩
    unfold fitAt rd_T47
    simp
  unfold textR
  rw [if_neg (by rw [ByteArray.toList_eq]; decide), hf, if_neg (by simp)]
theorem awake_text : textB [(⟨7, 4⟩ : S47), (⟨9, 0⟩ : S47)] = ⟨#[55, 58, 51, 44, 57, 58, 42]⟩ := by
  unfold textB
  rw [if_pos (by decide +kernel), if_neg (by decide)]
  apply ba_ext
  show Lib.join ([pieceB ⟨7, 4⟩, pieceB ⟨9, 0⟩].map (·.data.toList)) [44] = _
  unfold pieceB
  rw [show (Int.toNat 7) = 7 from rfl, show (Int.toNat 9) = 9 from rfl, dg7, dg9]
  rfl
theorem awake_val (K : Nat) (hK : 60 ≤ K) : curtilagelaw04_awake.f K = some true := by
  unfold curtilagelaw04_awake.f codec_Read.f
  rw [if_pos (by decide), if_pos (by decide), Option.bind_some, Option.bind_some]
  rw [codec_Text_val K _ (by
    intro i hi
    have : i = 0 ∨ i = 1 := by simp at hi; omega
    rcases this with rfl | rfl <;> simp) (by simp) (by simp; omega), Option.bind_some, awake_text, awake_dash, awake_bad]
  rw [if_pos (by rw [ByteArray.toList_eq])]
  simp
theorem textR_wf (s : ByteArray) : wfL (textR s).2 := by
  have hnil : wfL [] := fun i h => absurd h (by simp)
  have hp : wfL (pairsR (splitB 44 s)) := by
    intro i h
    unfold pairsR at h ⊢
    rw [List.getElem_map]
    unfold pairR pairQ
    have := numR_lt (cutB ((splitB 44 s)[i]'(by simpa using h)).data.toList [58]).1.data.toList
    exact ⟨Int.natCast_nonneg _, by show ((_ : Nat) : Int) < _; omega⟩
  unfold textR
  split
  · exact hnil
  · split
    · split
      · exact hp
      · exact hnil
    · exact hnil
theorem CodecTexts_val (l0 : List S47) (s : ByteArray) (hw : wfL l0) : ∃ k, curtilagelaw04_CodecTexts.f k l0 s = some true := by
  refine ⟨4000, ?_⟩
  unfold curtilagelaw04_CodecTexts.f
  by_cases hl : (l0.length : Int) > 40
  · rw [if_pos hl]
    simp only [curtilagelaw04_CodecTexts.j0]
    rw [if_pos trivial, awake_val _ (by decide), Option.bind_some]
  · rw [if_neg hl]
    by_cases hs2 : (s.size : Int) > 800
    · rw [decide_eq_true hs2]
      simp only [curtilagelaw04_CodecTexts.j0]
      rw [if_pos trivial, awake_val _ (by decide), Option.bind_some]
    · rw [decide_eq_false hs2]
      simp only [curtilagelaw04_CodecTexts.j0]
      have hrd : codec_Read.f s = some ((textR s).2, (textR s).1) := by unfold codec_Read.f; rw [if_pos (by omega)]
      rw [if_neg (by decide), hrd, Option.bind_some, rRead 3999 s (by omega) (by omega), Option.bind_some, codec_Text_val 3999 l0 hw (by omega) (by omega), Option.bind_some, ref_Text_val 3999 l0 hw (by omega) (by omega), Option.bind_some]
      have hlen := textR_len s
      rw [if_pos rfl]
      dsimp only
      rw [same_self 3999 (textR s).2 (by omega) (by omega), Option.bind_some, if_pos rfl, if_pos rfl, awake_val _ (by decide), Option.bind_some]
end Go.Proofs.YtjcjfeoipcbdoaaDoor.X
