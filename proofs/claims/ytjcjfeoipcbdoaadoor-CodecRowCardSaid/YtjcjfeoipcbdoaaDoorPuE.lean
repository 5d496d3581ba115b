/- Plain laws: labels as words and as texts, there and back. -/
import Derived.Test.YtjcjfeoipcbdoaaDoorPuDa
namespace Go.Proofs.YtjcjfeoipcbdoaaDoor.X
open Go.RowKit Go.Proofs.YtjcjfeoipcbdoaaDoorW.PrintWords
set_option linter.unusedVariables false
set_option linter.unusedSimpArgs false
/-! rows of pieces -/
theorem joinTail_cons (sep y : List UInt8) (r : List (List UInt8)) : Lib.joinTail sep (y :: r) = sep ++ Lib.join (y :: r) sep := by
  rw [Lib.join_cons]
  simp [Lib.joinTail]
theorem join_split (c : UInt8) : ∀ l : List UInt8, Lib.join (splitL c l) [c] = l
  | [] => by rw [splitL, Lib.join_one]
  | b :: l => by
    have ih := join_split c l
    unfold splitL
    cases hs : splitL c l with
    | nil => exact absurd hs (splitL_ne c l)
    | cons h t =>
      rw [hs] at ih
      by_cases hb : b = c
      · rw [if_pos hb, Lib.join_cons, joinTail_cons, ih, hb]; rfl
      · rw [if_neg hb]
        rw [Lib.join_cons] at ih
        show Lib.join ((b :: h) :: t) [c] = _
        rw [Lib.join_cons, List.cons_append, ih]
theorem split_join (c : UInt8) : ∀ (x : List UInt8) (xs : List (List UInt8)), (∀ y ∈ x :: xs, c ∉ y) → splitL c (Lib.join (x :: xs) [c]) = x :: xs
  | x, [], h => by rw [Lib.join_one, split_none c x (h x (List.mem_cons_self ..))]
  | x, y :: xs, h => by
    rw [Lib.join_cons, joinTail_cons, List.singleton_append, split_found c _ x (h x (List.mem_cons_self ..)), split_join c y xs (fun z hz => h z (List.mem_cons_of_mem _ hz))]
/-! pieces -/
theorem dg_mem (u : Nat) {c : UInt8} (h : c ∈ (dgB u).data.toList) : 48 ≤ c.toNat ∧ c.toNat ≤ 57 := by
  obtain ⟨i, hi, rfl⟩ := List.mem_iff_getElem.1 h
  have := digit_at u i hi
  omega
theorem sign_mem (n : Nat) (hn : n < 6) : ¬ (44 : UInt8) ∈ (signB n).data.toList ∧ levR (signB n) = ((n : Int), 0) := by
  have key : ∀ n : Fin 6, ¬ (44 : UInt8) ∈ (signB n.1).data.toList ∧ levR (signB n.1) = ((n.1 : Int), 0) := by decide +kernel
  exact key ⟨n, hn⟩
theorem piece_data (p : S47) : (pieceB p).data.toList = (dgB p.f0.toNat).data.toList ++ 58 :: (signB p.f1.toNat).data.toList := by
  unfold pieceB
  rw [app_data, app_data, List.append_assoc]
  rfl
theorem piece_comma (p : S47) (h : 0 ≤ p.f1 ∧ p.f1 ≤ 5) : ¬ (44 : UInt8) ∈ (pieceB p).data.toList := by
  rw [piece_data, List.mem_append, List.mem_cons]
  rintro (h1 | h1 | h1)
  · have := dg_mem _ h1
    have e : (44 : UInt8).toNat = 44 := rfl
    omega
  · cases h1
  · exact (sign_mem p.f1.toNat (by omega)).1 h1
theorem piece_pair (p : S47) (h0 : 0 ≤ p.f0 ∧ p.f0 < 18446744073709551616) (h1 : 0 ≤ p.f1 ∧ p.f1 ≤ 5) : pairR (pieceB p) = (p, true) := by
  have hn : ¬ (58 : UInt8) ∈ (dgB p.f0.toNat).data.toList := fun h => by
    have := dg_mem _ h
    have e : (58 : UInt8).toNat = 58 := rfl
    omega
  have hc := cut_found 58 (signB p.f1.toNat).data.toList (dgB p.f0.toNat).data.toList hn
  unfold pairR cutB
  rw [piece_data, hc]
  show pairQ (dgB p.f0.toNat) (signB p.f1.toNat) true = _
  unfold pairQ
  rw [numR_dgB p.f0.toNat (by omega), (sign_mem p.f1.toNat (by omega)).2]
  have e0 : ((p.f0.toNat : Nat) : Int) = p.f0 := by omega
  have e1 : ((p.f1.toNat : Nat) : Int) = p.f1 := by omega
  rw [e1]
  simp only [e0, beq_self_eq_true, Bool.and_self]
theorem levR_ok (g : ByteArray) (h : (levR g).2 = 0) : ∃ k : Nat, (levR g).1 = (k : Int) ∧ signB k = g := by
  unfold levR at h ⊢
  cases hf : (List.range 6).find? (fun k => (signB k).toList == g.toList) with
  | none => rw [hf] at h; cases h
  | some k =>
    have := List.find?_some hf
    rw [beq_iff_eq, ByteArray.toList_eq, ByteArray.toList_eq] at this
    exact ⟨k, rfl, ba_ext this⟩
theorem pair_piece (x : ByteArray) (h : (pairR x).2 = true) : pieceB (pairR x).1 = x := by
  unfold pairR cutB at h ⊢
  by_cases hm : (58 : UInt8) ∈ x.data.toList
  · obtain ⟨l, r, he, hn⟩ := List.eq_append_cons_of_mem hm
    have hc := cut_found 58 r l hn
    rw [← he] at hc
    rw [hc] at h ⊢
    unfold pairQ at h ⊢
    simp only [Bool.and_eq_true, beq_iff_eq] at h
    obtain ⟨⟨⟨_, h1⟩, h2⟩, h3⟩ := h
    obtain ⟨k, hk, hg⟩ := levR_ok _ h2
    apply ba_ext
    rw [piece_data, he]
    show (dgB (Int.toNat _)).data.toList ++ 58 :: (signB (Int.toNat _)).data.toList = _
    dsimp only
    rw [hk, Int.toNat_natCast, Int.toNat_natCast, hg]
    rw [ByteArray.toList_eq, ByteArray.toList_eq] at h3
    rw [h3]
  · rw [cut_none 58 _ hm] at h
    unfold pairQ at h
    simp at h
/-! texts -/
theorem text_parts (l : List S47) (hw : wfL l) (hf : fitL l = true) (h0 : l.length ≠ 0) : splitB 44 (textB l) = l.map pieceB := by
  unfold textB splitB
  rw [if_pos hf, if_neg h0]
  show (splitL 44 (Lib.join ((l.map pieceB).map (·.data.toList)) [44])).map _ = _
  cases l with
  | nil => exact absurd rfl h0
  | cons p l =>
    rw [List.map_cons, List.map_cons, split_join 44]
    · rw [← List.map_cons (f := fun x : ByteArray => x.data.toList), List.map_map, ← List.map_cons (f := pieceB)]
      refine (List.map_congr_left (g := id) ?_).trans (List.map_id _)
      intro x hx
      rfl
    · intro y hy
      rw [← List.map_cons (f := fun x : ByteArray => x.data.toList), ← List.map_cons (f := pieceB)] at hy
      obtain ⟨b, hb, rfl⟩ := List.mem_map.1 hy
      obtain ⟨q, hq, rfl⟩ := List.mem_map.1 hb
      obtain ⟨i, hi, rfl⟩ := List.mem_iff_getElem.1 hq
      exact piece_comma _ (fitL_at hf i hi)
theorem text_pairs (l : List S47) (hw : wfL l) (hf : fitL l = true) (h0 : l.length ≠ 0) : pairsR (splitB 44 (textB l)) = l ∧ badR (splitB 44 (textB l)) = false := by
  rw [text_parts l hw hf h0]
  have key : ∀ p ∈ l, pairR (pieceB p) = (p, true) := by
    intro p hp
    obtain ⟨i, hi, rfl⟩ := List.mem_iff_getElem.1 hp
    exact piece_pair _ (hw i hi) (fitL_at hf i hi)
  constructor
  · unfold pairsR
    rw [List.map_map]
    refine (List.map_congr_left (g := id) ?_).trans (List.map_id _)
    intro p hp
    show (pairR (pieceB p)).1 = p
    rw [key p hp]
  · unfold badR
    rw [List.any_map, List.any_eq_false]
    intro p hp
    show ¬ (!(pairR (pieceB p)).2) = true
    rw [key p hp]
    simp
theorem dash_bad : badR (splitB 44 (⟨#[45]⟩ : ByteArray)) = true := by
  unfold badR splitB
  rw [show splitL 44 (⟨#[45]⟩ : ByteArray).data.toList = [[45]] from rfl]
  simp only [List.map_cons, List.map_nil, List.any_cons, List.any_nil, Bool.or_false]
  unfold pairR cutB
  rw [cut_none 58 _ (by decide)]
  simp [pairQ]
theorem text_nil : textB [] = (⟨#[45]⟩ : ByteArray) := by unfold textB; rw [if_pos (show fitL [] = true from rfl), if_pos (show ([] : List S47).length = 0 from rfl)]
theorem text_ne_dash (l : List S47) (hw : wfL l) (hf : fitL l = true) (h0 : l.length ≠ 0) : textB l ≠ (⟨#[45]⟩ : ByteArray) := by
  intro e
  have h := (text_pairs l hw hf h0).2
  rw [e, dash_bad] at h
  cases h
theorem read_text (l : List S47) (hw : wfL l) (hf : fitL l = true) (hl : l.length ≤ 16) : textR (textB l) = (0, l) := by
  by_cases h0 : l.length = 0
  · have : l = [] := List.length_eq_zero_iff.1 h0
    subst this
    rw [text_nil, awake_dash]
  · obtain ⟨h1, h2⟩ := text_pairs l hw hf h0
    unfold textR
    rw [if_neg ?_, h1, h2, hf, if_pos (by decide), if_pos hl]
    intro e
    rw [beq_iff_eq, ByteArray.toList_eq] at e
    exact text_ne_dash l hw hf h0 (ba_ext e)
theorem text_read (s : ByteArray) (h : (textR s).1 = 0) : textB (textR s).2 = s := by
  unfold textR at h ⊢
  by_cases hd : (s.toList == ([45] : List UInt8)) = true
  · rw [if_pos hd, text_nil]
    rw [beq_iff_eq, ByteArray.toList_eq] at hd
    exact ba_ext hd.symm
  · rw [if_neg hd] at h ⊢
    by_cases hb : (!(badR (splitB 44 s)) && fitL (pairsR (splitB 44 s))) = true
    · rw [if_pos hb] at h ⊢
      by_cases hl : (pairsR (splitB 44 s)).length ≤ 16
      · rw [if_pos hl]
        rw [Bool.and_eq_true, Bool.not_eq_true'] at hb
        have hne : splitB 44 s ≠ [] := fun e => splitL_ne 44 s.data.toList (List.map_eq_nil_iff.1 e)
        show textB (pairsR (splitB 44 s)) = s
        unfold textB
        rw [if_pos hb.2, if_neg (fun e => hne (by unfold pairsR at e; rw [List.length_map] at e; exact List.length_eq_zero_iff.1 e))]
        have hp : (pairsR (splitB 44 s)).map pieceB = splitB 44 s := by
          unfold pairsR
          rw [List.map_map]
          refine (List.map_congr_left (g := id) ?_).trans (List.map_id _)
          intro x hx
          refine pair_piece x ?_
          have := List.any_eq_false.1 hb.1 x hx
          simpa using this
        rw [hp]
        apply ba_ext
        show Lib.join ((splitB 44 s).map (·.data.toList)) [44] = _
        unfold splitB
        rw [List.map_map]
        have : (splitL 44 s.data.toList).map ((fun x : ByteArray => x.data.toList) ∘ fun l => (⟨l.toArray⟩ : ByteArray)) = splitL 44 s.data.toList := by
          refine (List.map_congr_left (g := id) ?_).trans (List.map_id _)
          intro x hx
          rfl
        rw [this, join_split]
      · rw [if_neg hl] at h; cases h
    · rw [if_neg hb] at h; cases h
theorem text_inj (l m : List S47) (hl : wfL l) (hm : wfL m) (fl : fitL l = true) (fm : fitL m = true) (h : textB l = textB m) : l = m := by
  by_cases h0 : l.length = 0
  · have : l = [] := List.length_eq_zero_iff.1 h0
    subst this
    by_cases h1 : m.length = 0
    · exact (List.length_eq_zero_iff.1 h1).symm
    · rw [text_nil] at h
      exact absurd h.symm (text_ne_dash m hm fm h1)
  · by_cases h1 : m.length = 0
    · have : m = [] := List.length_eq_zero_iff.1 h1
      subst this
      rw [text_nil] at h
      exact absurd h (text_ne_dash l hl fl h0)
    · rw [← (text_pairs l hl fl h0).1, ← (text_pairs m hm fm h1).1, h]
/-! words -/
theorem flat_get (more : List Int) : ∀ (l : List S47) (j : Nat) (h : j < l.length), (l.flatMap pairW ++ more)[2 * j]? = some (l[j]'h).f0 ∧ (l.flatMap pairW ++ more)[2 * j + 1]? = some (l[j]'h).f1
  | [], j, h => absurd h (by simp)
  | p :: l, 0, h => by
    rw [List.flatMap_cons]
    exact ⟨rfl, rfl⟩
  | p :: l, j + 1, h => by
    have ih := flat_get more l j (by simpa using h)
    rw [List.flatMap_cons]
    rw [show 2 * (j + 1) = 2 * j + 1 + 1 by omega]
    exact ih
theorem rd_some {l : List Int} {i : Nat} {x : Int} (h : l[i]? = some x) : rd l (i : Int) = x := by
  unfold rd
  rw [Int.toNat_natCast, List.getD_eq_getElem?_getD, h]
  rfl
theorem parse_words (l : List S47) (more : List Int) (hf : fitL l = true) (hl : l.length ≤ 16) : parseR (wordsL l ++ more) = (l, 2 * (l.length : Int) + 1, 0) := by
  have hwl : wordsL l ++ more = (l.length : Int) :: (l.flatMap pairW ++ more) := by unfold wordsL; rw [if_pos hf]; rfl
  have h0 : rd (wordsL l ++ more) 0 = (l.length : Int) := by
    rw [hwl]; exact rd_some (i := 0) rfl
  have h1 : ∀ (j : Nat) (h : j < l.length), rd (wordsL l ++ more) ((2 * j + 1 : Nat) : Int) = (l[j]'h).f0 ∧ rd (wordsL l ++ more) ((2 * j + 2 : Nat) : Int) = (l[j]'h).f1 := by
    intro j h
    obtain ⟨a, b⟩ := flat_get more l j h
    rw [hwl]
    exact ⟨rd_some (by rw [List.getElem?_cons_succ]; exact a), rd_some (by rw [List.getElem?_cons_succ]; exact b)⟩
  have hlen : (wordsL l ++ more).length = 1 + 2 * l.length + more.length := by
    rw [hwl, List.length_cons, List.length_append, flat_len]; omega
  have hp : pairsW (wordsL l ++ more) l.length = l := by
    unfold pairsW
    refine List.ext_getElem (by simp) ?_
    intro i hi hi2
    rw [List.getElem_map, List.getElem_range]
    obtain ⟨a, b⟩ := h1 i hi2
    rw [a, b]
  have hlv : levsW (wordsL l ++ more) l.length = true := by
    unfold levsW
    rw [List.all_eq_true]
    intro j hj
    rw [List.mem_range] at hj
    rw [(h1 j hj).2]
    exact decide_eq_true (fitL_at hf j hj).2
  unfold parseR wordsR
  rw [if_neg (by omega), h0, if_neg (by omega), if_neg (by omega), Int.toNat_natCast, if_pos hlv, hp, if_pos hf]
theorem pairs_take (ws : List Int) : ∀ m : Nat, 2 * m < ws.length → rd ws 0 :: (pairsW ws m).flatMap pairW = ws.take (2 * m + 1)
  | 0, h => by
    cases ws with
    | nil => simp at h
    | cons x r => rfl
  | m + 1, h => by
    have ih := pairs_take ws m (by omega)
    rw [pairsW_succ, List.flatMap_append, ← List.cons_append, ih]
    rw [show 2 * (m + 1) + 1 = 2 * m + 1 + 1 + 1 by omega, List.take_succ_eq_append_getElem (by omega : 2 * m + 1 + 1 < ws.length), List.take_succ_eq_append_getElem (by omega : 2 * m + 1 < ws.length), List.append_assoc]
    have e1 : rd ws ((2 * m + 1 : Nat) : Int) = ws[2 * m + 1]'(by omega) := rd_some (List.getElem?_eq_getElem (by omega))
    have e2 : rd ws ((2 * m + 2 : Nat) : Int) = ws[2 * m + 1 + 1]'(by omega) := rd_some (List.getElem?_eq_getElem (by omega))
    rw [e1, e2]
    rfl
theorem words_parse (ws : List Int) (hok : okW ws) (h : (parseR ws).2.2 = 0) : ∃ m : Nat, (parseR ws).2.1 = ((2 * m + 1 : Nat) : Int) ∧ 2 * m + 1 ≤ ws.length ∧ wordsL (parseR ws).1 = ws.take (2 * m + 1) ∧ (parseR ws).1.length = m := by
  unfold parseR at h ⊢
  cases hw : wordsR ws with
  | none => rw [hw] at h; cases h
  | some l =>
    dsimp only
    unfold wordsR at hw
    have hk0 := (hok 0).1
    rw [show ((0 : Nat) : Int) = 0 from rfl] at hk0
    split at hw
    · cases hw
    · split at hw
      · cases hw
      · split at hw
        · cases hw
        · rename_i h3
          split at hw
          · split at hw
            · rename_i hf
              have hw := Option.some.inj hw
              generalize hm : (rd ws 0).toNat = m at *
              have hm' : rd ws 0 = (m : Int) := by omega
              have hl : l.length = m := by rw [← hw, pairsW_length]
              refine ⟨m, by rw [hl]; omega, by omega, ?_, hl⟩
              rw [← pairs_take ws m (by omega), hm']
              unfold wordsL
              rw [← hw, if_pos hf, pairsW_length]
            · cases hw
          · cases hw
theorem flat_inj : ∀ (l m : List S47), l.flatMap pairW = m.flatMap pairW → l = m
  | [], [], _ => rfl
  | [], q :: m, h => by rw [List.flatMap_cons] at h; cases h
  | p :: l, [], h => by rw [List.flatMap_cons] at h; cases h
  | p :: l, q :: m, h => by
    rw [List.flatMap_cons, List.flatMap_cons] at h
    obtain ⟨h1, h⟩ := List.cons.inj (show p.f0 :: (p.f1 :: l.flatMap pairW) = q.f0 :: (q.f1 :: m.flatMap pairW) from h)
    obtain ⟨h2, h⟩ := List.cons.inj h
    rw [flat_inj l m h]
    cases p; cases q
    cases h1; cases h2
    rfl
theorem words_inj (l m : List S47) (fl : fitL l = true) (fm : fitL m = true) (h : wordsL l = wordsL m) : l = m := by
  unfold wordsL at h
  rw [if_pos fl, if_pos fm] at h
  exact flat_inj l m (List.cons.inj h).2
/-! which are the same -/
theorem sw2_l (a b : List Int) (hab : a.length = b.length) (ha : a.length < 9223372036854775807) : ∀ (d i k : Nat), i + d = a.length → d < k → curtilageref04_SameWords.l0 k a b (i : Int) = some (decide (a.drop i = b.drop i)) := by
  intro d
  induction d with
  | zero =>
    intro i k hi hk
    obtain ⟨k, rfl⟩ : ∃ m, k = m + 1 := ⟨k - 1, by omega⟩
    simp only [curtilageref04_SameWords.l0]
    rw [if_neg (by omega), List.drop_eq_nil_of_le (by omega), List.drop_eq_nil_of_le (by omega)]
    rfl
  | succ d ih =>
    intro i k hi hk
    obtain ⟨k, rfl⟩ : ∃ m, k = m + 1 := ⟨k - 1, by omega⟩
    simp only [curtilageref04_SameWords.l0]
    rw [if_pos (by omega), if_pos (by omega), if_pos (by omega), show wrap64 ((i : Int) + 1) = ((i + 1 : Nat) : Int) by unfold wrap64; omega]
    have e1 : rd a (i : Int) = a[i]'(by omega) := rd_some (List.getElem?_eq_getElem (by omega))
    have e2 : rd b (i : Int) = b[i]'(by omega) := rd_some (List.getElem?_eq_getElem (by omega))
    rw [e1, e2, ih (i + 1) k (by omega) (by omega), List.drop_eq_getElem_cons (by omega : i < a.length), List.drop_eq_getElem_cons (by omega : i < b.length)]
    by_cases h : a[i]'(by omega) = b[i]'(by omega)
    · rw [if_pos h]
      refine congrArg some (decide_eq_decide.2 ?_)
      rw [h]
      constructor
      · intro e; rw [e]
      · intro e; exact (List.cons.inj e).2
    · rw [if_neg h]
      refine congrArg some (Eq.symm (decide_eq_false ?_))
      intro e
      exact h (List.cons.inj e).1
theorem sameWords_val (K : Nat) (a b : List Int) (ha : a.length < 9223372036854775807) (hK : a.length < K) : curtilageref04_SameWords.f K a b = some (decide (a = b)) := by
  unfold curtilageref04_SameWords.f
  by_cases h : a.length = b.length
  · rw [if_pos (by omega)]
    exact sw2_l a b h ha a.length 0 K (by omega) hK
  · rw [if_neg (by omega)]
    refine congrArg some (Eq.symm (decide_eq_false ?_))
    intro e
    exact h (by rw [e])
theorem same2_l (a b : List S47) (hab : a.length = b.length) (ha : a.length < 9223372036854775807) : ∀ (d i k : Nat), i + d = a.length → d < k → ∃ v, curtilageref02_Same.l0 k a b (i : Int) = some v ∧ (v = true ↔ a.drop i = b.drop i) := by
  intro d
  induction d with
  | zero =>
    intro i k hi hk
    obtain ⟨k, rfl⟩ : ∃ m, k = m + 1 := ⟨k - 1, by omega⟩
    simp only [curtilageref02_Same.l0]
    rw [if_neg (by omega), List.drop_eq_nil_of_le (by omega), List.drop_eq_nil_of_le (by omega)]
    exact ⟨true, rfl, by simp⟩
  | succ d ih =>
    intro i k hi hk
    obtain ⟨k, rfl⟩ : ∃ m, k = m + 1 := ⟨k - 1, by omega⟩
    simp only [curtilageref02_Same.l0]
    rw [if_pos (by omega), if_pos (by omega), if_pos (by omega), show wrap64 ((i : Int) + 1) = ((i + 1 : Nat) : Int) by unfold wrap64; omega]
    rw [rd47_at a i (by omega), rd47_at b i (by omega), List.drop_eq_getElem_cons (by omega : i < a.length), List.drop_eq_getElem_cons (by omega : i < b.length)]
    obtain ⟨v, hv, hv2⟩ := ih (i + 1) k (by omega) (by omega)
    generalize a[i]'(by omega) = x
    generalize b[i]'(by omega) = y
    by_cases h : x = y
    · subst h
      rw [if_neg (by simp), hv]
      refine ⟨v, rfl, hv2.trans ?_⟩
      constructor
      · intro e; rw [e]
      · intro e; exact (List.cons.inj e).2
    · rw [if_pos ?_]
      · exact ⟨false, rfl, by simp; intro e; exact absurd e h⟩
      · cases x with
        | mk x0 x1 =>
          cases y with
          | mk y0 y1 =>
            simp only [S47.mk.injEq] at h
            simp
            omega
theorem same_val (K : Nat) (a b : List S47) (ha : a.length < 9223372036854775807) (hK : a.length < K) : ∃ v, curtilageref02_Same.f K a b = some v ∧ (v = true ↔ a = b) := by
  unfold curtilageref02_Same.f
  by_cases h : a.length = b.length
  · rw [if_pos (by omega)]
    exact same2_l a b h ha a.length 0 K (by omega) hK
  · rw [if_neg (by omega)]
    refine ⟨false, rfl, ?_⟩
    constructor
    · intro e; cases e
    · intro e; exact absurd (by rw [e]) h
end Go.Proofs.YtjcjfeoipcbdoaaDoor.X
