/- Plain law of CodecBack. -/
import Derived.Test.YtjcjfeoipcbdoaaDoorPuE
import Derived.Test.YtjcjfeoipcbdoaaDoorXx7
namespace Go.Proofs.YtjcjfeoipcbdoaaDoor.X
open Go.RowKit Go.Proofs.YtjcjfeoipcbdoaaDoorW.PrintWords
set_option linter.unusedVariables false
set_option linter.unusedSimpArgs false
theorem bne_self (s : ByteArray) : (s.toList != s.toList) = false := by simp
theorem back_j4 (k : Nat) (hk : 100 ≤ k) (l m : List S47) (hl : wfL l) (hm : wfL m) (fl : fitL l = true) (fm : fitL m = true) (h1 : l.length ≤ 16) (h2 : m.length ≤ 40) :
    curtilagelaw04_CodecBack.j4 k l m (wordsL l) false = some true := by
  obtain ⟨k, rfl⟩ : ∃ n, k = n + 1 := ⟨k - 1, by omega⟩
  simp only [curtilagelaw04_CodecBack.j4]
  have hlen := wordsL_len l
  obtain ⟨v, hv, hv2⟩ := same_val k l m (by omega) (by omega)
  rw [if_neg (by decide), hv, Option.bind_some, codec_Text_val k l hl (by omega) (by omega), Option.bind_some, codec_Text_val k m hm (by omega) (by omega), Option.bind_some]
  by_cases h : l = m
  · have hvt : v = true := hv2.2 h
    subst h
    rw [hvt, if_pos (by simp), codec_Words_val k l (by omega) (by omega), Option.bind_some, sameWords_val k _ _ (by omega) (by omega), Option.bind_some, if_pos (by simp), awake_val k (by omega), Option.bind_some]
  · have hvf : v = false := by
      cases v with
      | true => exact absurd (hv2.1 rfl) h
      | false => rfl
    have ht : ((textB l).toList == (textB m).toList) = false := by
      rw [beq_eq_false_iff_ne]
      intro e
      rw [ByteArray.toList_eq, ByteArray.toList_eq] at e
      exact h (text_inj l m hl hm fl fm (ba_ext e))
    have hw : decide (wordsL l = wordsL m) = false := decide_eq_false (fun e => h (words_inj l m fl fm e))
    rw [hvf, ht, if_pos (by decide), codec_Words_val k m (by omega) (by omega), Option.bind_some, sameWords_val k _ _ (by omega) (by omega), Option.bind_some, hw, if_pos (by decide), awake_val k (by omega), Option.bind_some]
theorem back_j3 (k : Nat) (hk : 101 ≤ k) (l m : List S47) (ws : List Int) (hok : okB ws = true) (hws : ws.length ≤ 100) (hl : wfL l) (hm : wfL m) (fl : fitL l = true) (fm : fitL m = true) (h2 : m.length ≤ 40) :
    curtilagelaw04_CodecBack.j3 k l m ws (decide ((l.length : Int) > 16)) = some true := by
  obtain ⟨k, rfl⟩ : ∃ n, k = n + 1 := ⟨k - 1, by omega⟩
  simp only [curtilagelaw04_CodecBack.j3]
  by_cases h1 : (l.length : Int) > 16
  · rw [decide_eq_true h1, if_pos rfl, awake_val k (by omega), Option.bind_some]
  · rw [decide_eq_false h1, if_neg (by decide), codec_Words_val k l (by omega) (by omega), Option.bind_some, Option.bind_some]
    have hlen := wordsL_len l
    have hlw : (wordsL l).length = 2 * l.length + 1 := by unfold wordsL; rw [if_pos fl, List.length_cons, flat_len]
    rw [if_pos (by rw [List.length_nil]; omega), Option.bind_some, if_pos (by rw [List.nil_append]; omega), List.nil_append]
    have hokw : okB (wordsL l ++ ws) = true := by
      unfold okB at *
      rw [List.all_append, hok, Bool.and_true]
      unfold wordsL
      rw [if_pos fl, List.all_cons, Bool.and_eq_true, List.all_eq_true]
      refine ⟨by simp; omega, ?_⟩
      intro x hx
      obtain ⟨p, hp, hxp⟩ := List.mem_flatMap.1 hx
      obtain ⟨i, hi, rfl⟩ := List.mem_iff_getElem.1 hp
      have a1 := hl i hi
      have a2 := fitL_at fl i hi
      unfold pairW at hxp
      rw [List.mem_cons, List.mem_singleton] at hxp
      rcases hxp with rfl | rfl <;> simp <;> omega
    have hpa : codec_Parse.f (wordsL l ++ ws) = some (parseR (wordsL l ++ ws)) := by unfold codec_Parse.f; rw [if_pos hokw]
    rw [hpa, Option.bind_some, parse_words l ws fl (by omega), codec_Text_val k l hl (by omega) (by omega), Option.bind_some]
    have hz : (textB l).size ≤ 400 := by
      unfold textB
      rw [if_pos fl]
      split
      · rw [size_c]; omega
      · have := joinB_size l hl l.length (Nat.le_refl _)
        rw [List.take_length] at this
        omega
    have hrd : codec_Read.f (textB l) = some ((textR (textB l)).2, (textR (textB l)).1) := by unfold codec_Read.f; rw [if_pos (by omega)]
    rw [hrd, Option.bind_some, read_text l hl fl (by omega)]
    dsimp only
    rw [if_pos rfl, if_pos (by rw [hlw]; omega), same_self k l (by omega) (by omega), Option.bind_some, if_pos rfl, if_pos rfl, Option.bind_some]
    exact back_j4 k (by omega) l m hl hm fl fm (by omega) h2
theorem back_j2 (k : Nat) (hk : 102 ≤ k) (l m : List S47) (ws : List Int) (hok : okB ws = true) (hws : ws.length ≤ 100) (hl : wfL l) (hm : wfL m) (h1 : l.length ≤ 40) (h2 : m.length ≤ 40) :
    curtilagelaw04_CodecBack.j2 k l m ws false = some true := by
  obtain ⟨k, rfl⟩ : ∃ n, k = n + 1 := ⟨k - 1, by omega⟩
  simp only [curtilagelaw04_CodecBack.j2]
  rw [if_neg (by decide), ref_val l (by omega) k (by omega), Option.bind_some]
  have haw : curtilagelaw04_CodecBack.j3 k l m ws true = some true := by
    obtain ⟨k, rfl⟩ : ∃ n, k = n + 1 := ⟨k - 1, by omega⟩
    simp only [curtilagelaw04_CodecBack.j3]
    rw [if_pos trivial, awake_val k (by omega), Option.bind_some]
  by_cases fl : fitL l = true
  · rw [if_pos fl, ref_val m (by omega) k (by omega), Option.bind_some]
    by_cases fm : fitL m = true
    · rw [if_pos fm]
      exact back_j3 k (by omega) l m ws hok hws hl hm fl fm h2
    · rw [if_neg fm, haw]
  · rw [if_neg fl, haw]
theorem back_j1 (k : Nat) (hk : 203 ≤ k) (l m : List S47) (ws : List Int) (hok : okB ws = true) (hws : ws.length ≤ 100) (hl : wfL l) (hm : wfL m) (h1 : l.length ≤ 40) (h2 : m.length ≤ 40) :
    curtilagelaw04_CodecBack.j1 k l m ws false = some true := by
  obtain ⟨k, rfl⟩ : ∃ n, k = n + 1 := ⟨k - 1, by omega⟩
  simp only [curtilagelaw04_CodecBack.j1]
  have hpa : codec_Parse.f ws = some (parseR ws) := by unfold codec_Parse.f; rw [if_pos hok]
  rw [if_neg (by decide), hpa, Option.bind_some]
  have h3 := back_j2 k (by omega) l m ws hok hws hl hm h1 h2
  by_cases he : (parseR ws).2.2 = 0
  · obtain ⟨n, e1, e2, e3, e4⟩ := words_parse ws (okB_W hok) he
    rw [if_pos he, e1, if_neg (by omega), codec_Words_val k _ (by omega) (by omega), Option.bind_some, if_pos (by omega), if_pos (by omega), e3, Int.toNat_natCast]
    rw [sameWords_val k _ _ (by rw [List.length_take]; omega) (by rw [List.length_take]; omega), Option.bind_some, decide_eq_true rfl]
    exact h3
  · rw [if_neg he]
    exact h3
theorem CodecBack_val (l m : List S47) (ws : List Int) (s : ByteArray) (hl : wfL l) (hm : wfL m) (hok : okB ws = true) : ∃ k, curtilagelaw04_CodecBack.f k l m ws s = some true := by
  refine ⟨4001, ?_⟩
  have haw : curtilagelaw04_CodecBack.j0 4001 l m ws s true = some true := by
    simp only [curtilagelaw04_CodecBack.j0]
    rw [if_pos trivial, awake_val _ (by decide), Option.bind_some]
  unfold curtilagelaw04_CodecBack.f
  by_cases h1 : (l.length : Int) > 40
  · rw [if_pos h1, haw]
  rw [if_neg h1]
  by_cases h2 : (m.length : Int) > 40
  · rw [if_pos h2, haw]
  rw [if_neg h2]
  by_cases h3 : (ws.length : Int) > 100
  · rw [if_pos h3, haw]
  rw [if_neg h3]
  by_cases h4 : (s.size : Int) > 800
  · rw [decide_eq_true h4, haw]
  rw [decide_eq_false h4]
  simp only [curtilagelaw04_CodecBack.j0]
  have hrd : codec_Read.f s = some ((textR s).2, (textR s).1) := by unfold codec_Read.f; rw [if_pos (by omega)]
  rw [if_neg (by decide), hrd, Option.bind_some]
  have h5 := back_j1 4000 (by decide) l m ws hok (by omega) hl hm (by omega) (by omega)
  dsimp only
  by_cases he : (textR s).1 = 0
  · have hlen := textR_len s
    rw [if_pos he, codec_Text_val 4000 _ (textR_wf s) (by omega) (by omega), Option.bind_some, text_read s he, bne_self]
    exact h5
  · rw [if_neg he]
    exact h5
end Go.Proofs.YtjcjfeoipcbdoaaDoor.X
