/- Plain law of CodecRow. -/
import Derived.Test.YtjcjfeoipcbdoaaDoorPuE
import Derived.Test.YtjcjfeoipcbdoaaDoorXr
namespace Go.Proofs.YtjcjfeoipcbdoaaDoor.X
open Go.RowKit Go.Proofs.YtjcjfeoipcbdoaaDoorW.PrintWords
set_option linter.unusedVariables false
set_option linter.unusedSimpArgs false
theorem words_okB (l : List S47) (hl : wfL l) (hn : l.length ≤ 16) : okB (wordsL l) = true := by
  unfold wordsL
  split
  · rename_i fl
    unfold okB
    rw [List.all_cons, Bool.and_eq_true, List.all_eq_true]
    refine ⟨by simp; omega, ?_⟩
    intro x hx
    obtain ⟨p, hp, hxp⟩ := List.mem_flatMap.1 hx
    obtain ⟨i, hi, rfl⟩ := List.mem_iff_getElem.1 hp
    have a1 := hl i hi
    have a2 := fitL_at fl i hi
    unfold pairW at hxp
    rw [List.mem_cons, List.mem_singleton] at hxp
    rcases hxp with rfl | rfl <;> simp <;> omega
  · rfl
theorem rd_L4_at (l : List (List S47)) (i : Nat) (h : i < l.length) : rd_L4 l (i : Int) = l[i]'h := by
  unfold rd_L4
  rw [Int.toNat_natCast, List.getD_eq_getElem?_getD, List.getElem?_eq_getElem h]
  rfl
/-- A label that may stand in a row. -/
def goodL (x : List S47) : Prop := fitL x = true ∧ x.length ≤ 16 ∧ wfL x
theorem rows_len : ∀ ls : List (List S47), (∀ x ∈ ls, goodL x) → (ls.flatMap wordsL).length ≤ 33 * ls.length
  | [], _ => by simp
  | x :: ls, h => by
    have h1 := wordsL_len x
    have h2 := (h x (List.mem_cons_self ..)).2.1
    have h3 := rows_len ls (fun y hy => h y (List.mem_cons_of_mem _ hy))
    rw [List.flatMap_cons, List.length_append, List.length_cons]
    omega
theorem rows_ok : ∀ ls : List (List S47), (∀ x ∈ ls, goodL x) → okB (ls.flatMap wordsL) = true
  | [], _ => rfl
  | x :: ls, h => by
    have h2 := h x (List.mem_cons_self ..)
    have h3 := rows_ok ls (fun y hy => h y (List.mem_cons_of_mem _ hy))
    have h4 := words_okB x h2.2.2 h2.2.1
    unfold okB at *
    rw [List.flatMap_cons, List.all_append, h3, h4]
    rfl
theorem row_l1 (l : List (List S47)) (hg : ∀ x ∈ l, goodL x) (hn : l.length ≤ 8) : ∀ (d j k : Nat), j + d = l.length → d + 100 < k →
    curtilagelaw04_CodecRow.l1 k ((l.drop j).flatMap wordsL) l (l.length : Int) (j : Int) = some true := by
  intro d
  induction d with
  | zero =>
    intro j k hj hk
    obtain ⟨k, rfl⟩ : ∃ m, k = m + 1 := ⟨k - 1, by omega⟩
    obtain rfl : j = l.length := by omega
    simp only [curtilagelaw04_CodecRow.l1]
    rw [if_neg (by omega), List.drop_length]
    rw [show ([] : List (List S47)).flatMap wordsL = [] from rfl, if_pos (by rfl), awake_val k (by omega), Option.bind_some]
  | succ d ih =>
    intro j k hj hk
    obtain ⟨k, rfl⟩ : ∃ m, k = m + 1 := ⟨k - 1, by omega⟩
    have hlt : j < l.length := by omega
    have hgj := hg _ (List.getElem_mem hlt)
    have ih := ih (j + 1) k (by omega) (by omega)
    have hg2 : ∀ x ∈ l.drop (j + 1), goodL x := fun x hx => hg x (List.mem_of_mem_drop hx)
    have hg1 : ∀ x ∈ l.drop j, goodL x := fun x hx => hg x (List.mem_of_mem_drop hx)
    have hln := rows_len _ hg1
    have hok := rows_ok _ hg1
    rw [List.length_drop] at hln
    have hcons : (l.drop j).flatMap wordsL = wordsL (l[j]'hlt) ++ (l.drop (j + 1)).flatMap wordsL := by
      rw [List.drop_eq_getElem_cons hlt, List.flatMap_cons]
    have hlw : (wordsL (l[j]'hlt)).length = 2 * (l[j]'hlt).length + 1 := by unfold wordsL; rw [if_pos hgj.1, List.length_cons, flat_len]
    have hpa : codec_Parse.f ((l.drop j).flatMap wordsL) = some (parseR ((l.drop j).flatMap wordsL)) := by unfold codec_Parse.f; rw [if_pos hok]
    simp only [curtilagelaw04_CodecRow.l1]
    rw [if_pos (by omega), if_pos (by omega), if_pos (by omega), hpa, Option.bind_some, rd_L4_at l j hlt]
    rw [hcons] at hln ⊢
    rw [parse_words _ _ hgj.1 hgj.2.1]
    rw [List.length_append, hlw] at hln
    dsimp only
    have hgl := hgj.2.1
    rw [if_pos rfl, if_neg (by rw [List.length_append, hlw]; omega), same_self k _ (by omega) (by omega), Option.bind_some, if_pos rfl, if_pos (by omega), if_pos (by rw [List.length_append, hlw]; omega)]
    rw [show wrap64 ((j : Int) + 1) = ((j + 1 : Nat) : Int) by unfold wrap64; omega]
    rw [show (2 * ((l[j]'hlt).length : Int) + 1).toNat = (wordsL (l[j]'hlt)).length by omega, List.drop_left]
    exact ih
theorem row_j1 (l : List (List S47)) (x3 : List Int) (x5 : List S47) (x14 : Int) (k : Nat) (hk : 100 ≤ k) : curtilagelaw04_CodecRow.j1 k l x3 x5 l (l.length : Int) x14 true = some true := by
  obtain ⟨k, rfl⟩ : ∃ m, k = m + 1 := ⟨k - 1, by omega⟩
  simp only [curtilagelaw04_CodecRow.j1]
  rw [if_pos trivial, awake_val k (by omega), Option.bind_some]
theorem row_l0 (l : List (List S47)) (hw : ∀ x ∈ l, wfL x) : ∀ (d i k : Nat), i + d = l.length → i ≤ 8 → 2 * d + 300 < k → (∀ x ∈ l.take i, goodL x) →
    curtilagelaw04_CodecRow.l0 k l ((l.take i).flatMap wordsL) l (l.length : Int) (i : Int) = some true := by
  intro d
  induction d with
  | zero =>
    intro i k hi h8 hk hg
    obtain ⟨k, rfl⟩ : ∃ m, k = m + 1 := ⟨k - 1, by omega⟩
    obtain rfl : i = l.length := by omega
    rw [List.take_length] at hg
    simp only [curtilagelaw04_CodecRow.l0]
    rw [if_neg (by omega), List.take_length]
    have := row_l1 l hg h8 l.length 0 k (by omega) (by omega)
    rw [List.drop_zero] at this
    exact this
  | succ d ih =>
    intro i k hi h8 hk hg
    obtain ⟨k, rfl⟩ : ∃ m, k = m + 2 := ⟨k - 2, by omega⟩
    have hlt : i < l.length := by omega
    have hwi := hw _ (List.getElem_mem hlt)
    simp only [curtilagelaw04_CodecRow.l0]
    rw [if_pos (by omega), if_pos (by omega), if_pos (by omega), rd_L4_at l i hlt]
    by_cases h1 : (i : Int) ≥ 8
    · rw [if_pos h1]
      exact row_j1 l _ _ _ (k + 1) (by omega)
    rw [if_neg h1]
    by_cases h2 : ((l[i]'hlt).length : Int) > 16
    · rw [if_pos h2]
      exact row_j1 l _ _ _ (k + 1) (by omega)
    rw [if_neg h2, ref_val _ (by omega) (k + 1) (by omega), Option.bind_some]
    by_cases hf : fitL (l[i]'hlt) = true
    · rw [hf]
      simp only [curtilagelaw04_CodecRow.j1]
      have hln := rows_len _ hg
      rw [List.length_take] at hln
      have hlw : (wordsL (l[i]'hlt)).length = 2 * (l[i]'hlt).length + 1 := by unfold wordsL; rw [if_pos hf, List.length_cons, flat_len]
      rw [if_neg (by decide), codec_Words_val k _ (by omega) (by omega), Option.bind_some, if_pos (by rw [hlw]; unfold wrap64; omega), if_pos (by rw [hlw]; omega)]
      rw [show wrap64 ((i : Int) + 1) = ((i + 1 : Nat) : Int) by unfold wrap64; omega]
      have hg2 : ∀ x ∈ l.take (i + 1), goodL x := by
        intro x hx
        rw [List.take_succ_eq_append_getElem hlt, List.mem_append, List.mem_singleton] at hx
        rcases hx with hx | rfl
        · exact hg x hx
        · exact ⟨hf, by omega, hwi⟩
      have := ih (i + 1) k (by omega) (by omega) (by omega) hg2
      rw [List.take_succ_eq_append_getElem hlt, List.flatMap_append, List.flatMap_cons, List.flatMap_nil, List.append_nil] at this
      exact this
    · rw [Bool.eq_false_iff.2 hf]
      exact row_j1 l _ _ _ (k + 1) (by omega)
theorem CodecRow_val (l : List (List S47)) (hw : ∀ x ∈ l, wfL x) : ∃ k, curtilagelaw04_CodecRow.f k l = some true := by
  refine ⟨2 * l.length + 400, ?_⟩
  unfold curtilagelaw04_CodecRow.f
  have := row_l0 l hw l.length 0 (2 * l.length + 400) (by omega) (by omega) (by omega) (by simp)
  rw [List.take_zero] at this
  exact this
end Go.Proofs.YtjcjfeoipcbdoaaDoor.X
