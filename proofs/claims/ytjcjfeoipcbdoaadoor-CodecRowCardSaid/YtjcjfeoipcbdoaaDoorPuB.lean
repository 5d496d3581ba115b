/- Plain laws: pairs and labels of texts, the reference's and the program's. -/
import Derived.Test.YtjcjfeoipcbdoaaDoorPuA
namespace Go.Proofs.YtjcjfeoipcbdoaaDoor.X
open Go.RowKit Go.Proofs.YtjcjfeoipcbdoaaDoorW.PrintWords
set_option linter.unusedVariables false
set_option linter.unusedSimpArgs false
theorem cut_none (c : UInt8) : ∀ (l : List UInt8), c ∉ l → Lib.cut l [c] = (l, [], false)
  | [], _ => cut_nil c
  | b :: l, h => by
    have h1 : b ≠ c := fun e => h (by rw [e]; exact List.mem_cons_self ..)
    rw [cut_skip b c l h1, cut_none c l (fun hm => h (List.mem_cons_of_mem _ hm))]
theorem cut_found (c : UInt8) (r : List UInt8) : ∀ (l : List UInt8), c ∉ l → Lib.cut (l ++ c :: r) [c] = (l, r, true)
  | [], _ => cut_hit c r
  | b :: l, h => by
    have h1 : b ≠ c := fun e => h (by rw [e]; exact List.mem_cons_self ..)
    rw [List.cons_append, cut_skip b c _ h1, cut_found c r l (fun hm => h (List.mem_cons_of_mem _ hm))]
theorem split_none (c : UInt8) : ∀ (l : List UInt8), c ∉ l → splitL c l = [l]
  | [], _ => rfl
  | b :: l, h => by
    have h1 : b ≠ c := fun e => h (by rw [e]; exact List.mem_cons_self ..)
    rw [splitL, if_neg h1, split_none c l (fun hm => h (List.mem_cons_of_mem _ hm))]
theorem split_found (c : UInt8) (r : List UInt8) : ∀ (l : List UInt8), c ∉ l → splitL c (l ++ c :: r) = l :: splitL c r
  | [], _ => by rw [List.nil_append, splitL, if_pos rfl]
  | b :: l, h => by
    have h1 : b ≠ c := fun e => h (by rw [e]; exact List.mem_cons_self ..)
    rw [List.cons_append, splitL, if_neg h1, split_found c r l (fun hm => h (List.mem_cons_of_mem _ hm))]
theorem split_at {s : List UInt8} {i : Nat} (hi : i < s.length) : s = s.take i ++ s[i] :: s.drop (i + 1) := by
  rw [← List.drop_eq_getElem_cons hi, List.take_append_drop]
theorem mem_take_succ {s : List UInt8} {c : UInt8} {i : Nat} (hi : i < s.length) (h : c ∉ s.take i) (hc : s[i] ≠ c) : c ∉ s.take (i + 1) := by
  rw [List.take_succ_eq_append_getElem hi, List.mem_append]
  rintro (h' | h')
  · exact h h'
  · simp at h'; exact hc h'.symm
theorem pair_l (s : ByteArray) (hs : s.size < 9223372036854775807) : ∀ (d i k : Nat), i + d = s.size → d + 120 ≤ k → 58 ∉ s.data.toList.take i →
    ∃ c l b, curtilageref04_pair.l0 k s (i : Int) = some (c, l, b) ∧ b = (pairR s).2 ∧ (b = true → (⟨c, l⟩ : S47) = (pairR s).1) := by
  intro d
  induction d with
  | zero =>
    intro i k hi hk hn
    obtain ⟨k, rfl⟩ : ∃ m, k = m + 1 := ⟨k - 1, by omega⟩
    obtain rfl : i = s.size := by omega
    refine ⟨0, 0, false, ?_, ?_, fun h => by cases h⟩
    · simp only [curtilageref04_pair.l0]
      rw [if_neg (by omega)]
    · rw [size_data, List.take_length] at hn
      unfold pairR cutB
      rw [cut_none 58 _ hn]
      simp [pairQ]
  | succ d ih =>
    intro i k hi hk hn
    obtain ⟨k, rfl⟩ : ∃ m, k = m + 1 := ⟨k - 1, by omega⟩
    have hlt : i < s.size := by omega
    have hlt' : i < s.data.toList.length := hlt
    simp only [curtilageref04_pair.l0]
    rw [if_pos (by omega), if_pos (by omega), bt_at s i hlt]
    by_cases hc : (((s.data.toList[i]'hlt).toNat : Nat) : Int) = 58
    · have hc' : s.data.toList[i]'hlt = 58 := by
        apply UInt8.toNat_inj.1
        have : ((s.data.toList[i]'hlt).toNat) = 58 := by omega
        exact this
      rw [if_pos hc, if_pos (by omega), show wrap64 ((i : Int) + 1) = ((i + 1 : Nat) : Int) by unfold wrap64; omega]
      rw [Int.toNat_natCast, Int.toNat_natCast]
      have hd1 : s.extract 0 i = (cutB s.data.toList [58]).1 ∧ s.extract (i + 1) s.size = (cutB s.data.toList [58]).2.1 ∧ (cutB s.data.toList [58]).2.2 = true := by
        have hcut := cut_found 58 (s.data.toList.drop (i + 1)) (s.data.toList.take i) hn
        have hsp := split_at (s := s.data.toList) hlt'
        rw [hc'] at hsp
        rw [← hsp] at hcut
        unfold cutB
        rw [hcut]
        refine ⟨ba_ext ?_, ba_ext ?_, rfl⟩
        · rw [ext_data]; simp
        · rw [ext_data]
          show _ = (s.data.toList.drop (i + 1)).toArray.toList
          rw [List.take_of_length_le (by rw [List.length_drop, ← size_data]; omega)]
      have hz : (s.extract 0 i).size ≤ s.size := by rw [hd1.1]; exact (cutB_le s [58]).1
      obtain ⟨v, b, hv, hv1, hv2⟩ := rNumber k (by omega) (s.extract 0 i) (by omega)
      rw [hv, Option.bind_some, if_pos (by omega), if_pos (by omega), r01Read k (by omega), Option.bind_some]
      unfold pairR
      rw [hd1.2.2, ← hd1.1, ← hd1.2.1]
      generalize s.extract 0 i = D at *
      generalize s.extract (i + 1) s.size = G at *
      simp only [pairQ, Bool.true_and]
      cases b with
      | true =>
        obtain ⟨h1, h2⟩ := hv1 rfl
        rw [← h2, numR_dgB v h1]
        refine ⟨_, _, _, rfl, ?_, fun _ => rfl⟩
        simp
      | false =>
        refine ⟨_, _, _, rfl, ?_, fun h => by cases h⟩
        cases hnb : (numR D.data.toList).2 with
        | false => simp
        | true =>
          have hq : ((dgB (numR D.data.toList).1).toList == D.toList) = false := by
            rw [beq_eq_false_iff_ne]
            intro e
            rw [ByteArray.toList_eq, ByteArray.toList_eq] at e
            have := (hv2 (numR D.data.toList).1 (numR_lt _) (ba_ext e.symm)).2
            cases this
          rw [hq]
          simp
    · have hc' : s.data.toList[i]'hlt ≠ 58 := fun e => hc (by rw [e]; rfl)
      rw [if_neg hc, show wrap64 ((i : Int) + 1) = ((i + 1 : Nat) : Int) by unfold wrap64; omega]
      exact ih (i + 1) k (by omega) (by omega) (mem_take_succ hlt' hn hc')
theorem rPair (K : Nat) (s : ByteArray) (hs : s.size < 9223372036854775807) (hK : s.size + 130 ≤ K) :
    ∃ c l b, curtilageref04_pair.f K s = some (c, l, b) ∧ b = (pairR s).2 ∧ (b = true → (⟨c, l⟩ : S47) = (pairR s).1) :=
  pair_l s hs s.size 0 K (by omega) (by omega) (by simp)
/-- What a reader answers behind some pairs, when these pieces are left. -/
def finR (acc : List S47) (ps : List ByteArray) : List S47 × Int :=
  if badR ps = true then ([], 11) else if fitL (acc ++ pairsR ps) = true then (if (acc ++ pairsR ps).length > 16 then ([], 6) else (acc ++ pairsR ps, 0)) else ([], 11)
theorem finR_cons (acc : List S47) (p : ByteArray) (ps : List ByteArray) (h : (pairR p).2 = true) : finR acc (p :: ps) = finR (acc ++ [(pairR p).1]) ps := by
  unfold finR badR pairsR
  simp [h]
theorem finR_bad (acc : List S47) (p : ByteArray) (ps : List ByteArray) (h : (pairR p).2 = false) : finR acc (p :: ps) = ([], 11) := by
  unfold finR badR
  simp [h]
theorem read_end (s : ByteArray) (k : Nat) (acc : List S47) (fr : Int) (hs : s.size < 9223372036854775806) (hk : acc.length < k) (hl : acc.length < 9223372036854775807) :
    curtilageref04_Read.l0 (k + 1) s acc fr ((s.size + 1 : Nat) : Int) = some (finR acc []) := by
  simp only [curtilageref04_Read.l0]
  rw [if_neg (by omega), ref_val acc hl k hk, Option.bind_some]
  unfold finR badR pairsR
  simp only [List.any_nil, List.map_nil, List.append_nil, Bool.false_eq_true, if_false]
  by_cases hf : fitL acc = true
  · rw [if_pos hf, if_pos hf]
    by_cases hg : acc.length > 16
    · rw [if_pos hg, if_pos (by omega)]
    · rw [if_neg hg, if_neg (by omega)]
  · rw [if_neg hf, if_neg hf]
theorem read_l (s : ByteArray) (hs : s.size < 8796093022207) : ∀ (d i fr k : Nat) (acc : List S47), i + d = s.size → fr ≤ i → 2 * d + s.size + 140 ≤ k → acc.length ≤ fr → 44 ∉ (s.data.toList.drop fr).take (i - fr) →
    curtilageref04_Read.l0 k s acc (fr : Int) (i : Int) = some (finR acc ((splitL 44 (s.data.toList.drop fr)).map (fun l => ⟨l.toArray⟩))) := by
  intro d
  induction d with
  | zero =>
    intro i fr k acc hi hfr hk hacc hn
    obtain ⟨k, rfl⟩ : ∃ m, k = m + 3 := ⟨k - 3, by omega⟩
    obtain rfl : i = s.size := by omega
    have h0 : curtilageref04_Read.l0 (k + 3) s acc (fr : Int) ((s.size : Nat) : Int) = curtilageref04_Read.j1 (k + 2) s acc (fr : Int) ((s.size : Nat) : Int) false := by
      simp only [curtilageref04_Read.l0]
      rw [if_pos (by omega), if_neg (by omega)]
    rw [h0]
    simp only [curtilageref04_Read.j1]
    rw [if_neg (by decide), if_pos (by omega), if_pos (by omega), if_pos (by omega), Int.toNat_natCast, Int.toNat_natCast]
    have htk : (s.data.toList.drop fr).take (s.size - fr) = s.data.toList.drop fr := List.take_of_length_le (by rw [List.length_drop, ← size_data]; omega)
    rw [htk] at hn
    rw [split_none 44 _ hn, List.map_cons, List.map_nil]
    have hp : s.extract fr s.size = ⟨(s.data.toList.drop fr).toArray⟩ := ba_ext (by rw [ext_data, htk])
    have hz : (s.extract fr s.size).size ≤ s.size := by
      rw [hp]
      show (s.data.toList.drop fr).length ≤ _
      rw [List.length_drop, ← size_data]; omega
    obtain ⟨c, l, b, hb, h1, h2⟩ := rPair (k + 1) (s.extract fr s.size) (by omega) (by omega)
    rw [hb, Option.bind_some]
    dsimp only
    rw [hp] at h1 h2
    cases b with
    | true =>
      rw [if_pos rfl, if_pos (by omega), show wrap64 ((s.size : Int) + 1) = ((s.size + 1 : Nat) : Int) by unfold wrap64; omega, read_end s k _ _ (by omega) (by rw [List.length_append, List.length_singleton]; omega) (by rw [List.length_append, List.length_singleton]; omega), finR_cons _ _ _ h1.symm, h2 rfl]
    | false => rw [if_neg (by decide), finR_bad _ _ _ h1.symm]
  | succ d ih =>
    intro i fr k acc hi hfr hk hacc hn
    obtain ⟨k, rfl⟩ : ∃ m, k = m + 2 := ⟨k - 2, by omega⟩
    have hlt : i < s.size := by omega
    have hlt' : i < s.data.toList.length := hlt
    have hwr : wrap64 ((i : Int) + 1) = ((i + 1 : Nat) : Int) := by unfold wrap64; omega
    have hlt2 : i - fr < (s.data.toList.drop fr).length := by rw [List.length_drop]; omega
    have hel : (s.data.toList.drop fr)[i - fr]'hlt2 = s.data.toList[i]'hlt := by
      rw [List.getElem_drop]; congr 1; omega
    by_cases hc : s.data.toList[i]'hlt = 44
    · have h0 : curtilageref04_Read.l0 (k + 2) s acc (fr : Int) (i : Int) = curtilageref04_Read.j1 (k + 1) s acc (fr : Int) (i : Int) false := by
        simp only [curtilageref04_Read.l0]
        rw [if_pos (by omega), if_pos (by omega), if_pos (by omega), bt_at s i hlt, hc]
        rfl
      rw [h0]
      simp only [curtilageref04_Read.j1]
      rw [if_neg (by decide), if_pos (by omega), if_pos (by omega), if_pos (by omega), Int.toNat_natCast, Int.toNat_natCast]
      have hp : s.extract fr i = ⟨((s.data.toList.drop fr).take (i - fr)).toArray⟩ := ba_ext (by rw [ext_data])
      have hz : (s.extract fr i).size ≤ s.size := by
        rw [hp]
        show ((s.data.toList.drop fr).take (i - fr)).length ≤ _
        rw [List.length_take, List.length_drop, ← size_data]; omega
      have hsp := split_at (s := s.data.toList.drop fr) hlt2
      rw [hel, hc, List.drop_drop, show fr + (i - fr + 1) = i + 1 by omega] at hsp
      have hsp2 : splitL 44 (s.data.toList.drop fr) = (s.data.toList.drop fr).take (i - fr) :: splitL 44 (s.data.toList.drop (i + 1)) := by
        rw [← split_found 44 _ _ hn, ← hsp]
      rw [hsp2, List.map_cons, ← hp]
      obtain ⟨c, l, b, hb, h1, h2⟩ := rPair k (s.extract fr i) (by omega) (by omega)
      rw [hb, Option.bind_some]
      dsimp only
      cases b with
      | true =>
        rw [if_pos rfl, if_pos (by omega), hwr, finR_cons _ _ _ h1.symm, ← h2 rfl]
        exact ih (i + 1) (i + 1) k _ (by omega) (Nat.le_refl _) (by omega) (by rw [List.length_append, List.length_singleton]; omega) (by simp)
      | false => rw [if_neg (by decide), finR_bad _ _ _ h1.symm]
    · have h0 : curtilageref04_Read.l0 (k + 2) s acc (fr : Int) (i : Int) = curtilageref04_Read.j1 (k + 1) s acc (fr : Int) (i : Int) true := by
        simp only [curtilageref04_Read.l0]
        rw [if_pos (by omega), if_pos (by omega), if_pos (by omega), bt_at s i hlt]
        congr 1
        rw [bne_iff_ne]
        intro e
        apply hc
        apply UInt8.toNat_inj.1
        have : ((s.data.toList[i]'hlt).toNat) = 44 := by omega
        exact this
      rw [h0]
      simp only [curtilageref04_Read.j1]
      rw [if_pos (by decide), hwr]
      refine ih (i + 1) fr k acc (by omega) (by omega) (by omega) hacc ?_
      rw [show i + 1 - fr = (i - fr) + 1 by omega]
      exact mem_take_succ hlt2 hn (by rw [hel]; exact hc)
theorem rRead (K : Nat) (s : ByteArray) (hs : s.size < 8796093022207) (hK : 3 * s.size + 150 ≤ K) : curtilageref04_Read.f K s = some ((textR s).2, (textR s).1) := by
  unfold curtilageref04_Read.f textR
  by_cases h : s.toList = ([45] : List UInt8)
  · rw [if_pos h, if_pos (by rw [beq_iff_eq]; exact h)]
  · rw [if_neg h, if_neg (by rw [beq_iff_eq]; exact h)]
    have := read_l s hs s.size 0 0 K [] (by omega) (Nat.le_refl _) (by omega) (by simp) (by simp)
    rw [List.drop_zero] at this
    rw [show ((0 : Nat) : Int) = 0 from rfl] at this
    rw [this]
    show some (finR [] (splitB 44 s)) = _
    unfold finR
    simp only [List.nil_append]
    cases hb : badR (splitB 44 s) with
    | true => simp
    | false =>
      simp only [Bool.false_eq_true, if_false, Bool.not_false, Bool.true_and]
      by_cases hf : fitL (pairsR (splitB 44 s)) = true
      · rw [if_pos hf, if_pos hf]
        by_cases hg : (pairsR (splitB 44 s)).length > 16
        · rw [if_pos hg, if_neg (by omega)]
        · rw [if_neg hg, if_pos (by omega)]
      · rw [if_neg hf, if_neg hf]
end Go.Proofs.YtjcjfeoipcbdoaaDoor.X
