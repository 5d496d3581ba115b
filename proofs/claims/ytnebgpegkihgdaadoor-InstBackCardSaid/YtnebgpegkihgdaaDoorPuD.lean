/- Plain law: unlike fit instructions have unlike texts. -/
import Derived.Test.YtnebgpegkihgdaaDoorPuC
import Derived.Test.YtnebgpegkihgdaaDoorPuInstFields
namespace Go.Proofs.YtnebgpegkihgdaaDoor.X
open Go.RowKit Go.Proofs.YtnebgpegkihgdaaDoorW.PrintWords
set_option linter.unusedVariables false
set_option linter.unusedSimpArgs false
/-- What stands ahead of the first blank, and behind it, is told by the whole. -/
theorem cut_eq : ∀ (a b x y : List UInt8), (32 : UInt8) ∉ a → (32 : UInt8) ∉ b → a ++ 32 :: x = b ++ 32 :: y → a = b ∧ x = y
  | [], [], x, y, _, _, h => ⟨rfl, by simpa using h⟩
  | [], c :: b, x, y, _, hb, h => by
    simp only [List.nil_append, List.cons_append, List.cons.injEq] at h
    exact absurd (by rw [← h.1]; exact List.mem_cons_self) hb
  | c :: a, [], x, y, ha, _, h => by
    simp only [List.nil_append, List.cons_append, List.cons.injEq] at h
    exact absurd (by rw [h.1]; exact List.mem_cons_self) ha
  | c :: a, d :: b, x, y, ha, hb, h => by
    simp only [List.cons_append, List.cons.injEq] at h
    obtain ⟨h1, h2⟩ := cut_eq a b x y (fun k => ha (List.mem_cons_of_mem _ k)) (fun k => hb (List.mem_cons_of_mem _ k)) h.2
    exact ⟨by rw [h.1, h1], h2⟩
/-- Words with a blank ahead of each. -/
def joined : List (List UInt8) → List UInt8
  | [] => []
  | w :: r => 32 :: (w ++ joined r)
theorem joined_eq : ∀ (a b : List UInt8) (l m : List (List UInt8)), (32 : UInt8) ∉ a → (32 : UInt8) ∉ b → (∀ w ∈ l, (32 : UInt8) ∉ w) → (∀ w ∈ m, (32 : UInt8) ∉ w) → a ++ joined l = b ++ joined m → a = b ∧ l = m
  | a, b, [], [], _, _, _, _, h => ⟨by simpa [joined] using h, rfl⟩
  | a, b, [], w :: m, ha, _, _, _, h => by
    simp only [joined, List.append_nil] at h
    exact absurd (by rw [h]; simp) ha
  | a, b, w :: l, [], _, hb, _, _, h => by
    simp only [joined, List.append_nil] at h
    exact absurd (by rw [← h]; simp) hb
  | a, b, w :: l, v :: m, ha, hb, hl, hm, h => by
    simp only [joined] at h
    obtain ⟨h1, h2⟩ := cut_eq a b _ _ ha hb h
    obtain ⟨h3, h4⟩ := joined_eq w v l m (hl w List.mem_cons_self) (hm v List.mem_cons_self) (fun u hu => hl u (List.mem_cons_of_mem _ hu)) (fun u hu => hm u (List.mem_cons_of_mem _ hu)) h2
    exact ⟨h1, by rw [h3, h4]⟩
theorem digits_range (u : Nat) : ∀ c ∈ Lib.decDigits u, 48 ≤ c.toNat ∧ c.toNat ≤ 57 := by
  induction u using Nat.strongRecOn with
  | _ u ih =>
    intro c hc
    rw [Lib.decDigits] at hc
    split at hc
    · rename_i h
      simp only [List.mem_singleton] at hc
      subst hc
      rw [UInt8.toNat_ofNat']
      omega
    · rename_i h
      rcases List.mem_append.1 hc with hc | hc
      · exact ih (u / 10) (by omega) c hc
      · simp only [List.mem_singleton] at hc
        subst hc
        rw [UInt8.toNat_ofNat']
        omega
theorem itoa_chars (n : Int) : ∀ c ∈ Lib.itoa n, c = 45 ∨ (48 ≤ c.toNat ∧ c.toNat ≤ 57) := by
  intro c hc
  unfold Lib.itoa at hc
  split at hc
  · rcases List.mem_cons.1 hc with h | h
    · exact .inl h
    · exact .inr (digits_range _ c h)
  · exact .inr (digits_range _ c hc)
theorem itoa_noblank (n : Int) : (32 : UInt8) ∉ Lib.itoa n := fun h => by
  rcases itoa_chars n 32 h with h | h
  · exact absurd h (by decide)
  · exact absurd h.1 (by decide)
theorem decDigits_inj : ∀ (u v : Nat), Lib.decDigits u = Lib.decDigits v → u = v := by
  intro u
  induction u using Nat.strongRecOn with
  | _ u ih =>
    intro v h
    have hl := congrArg List.length h
    rw [Lib.decDigits, Lib.decDigits.eq_1 v] at h
    by_cases h1 : u < 10 <;> by_cases h2 : v < 10
    · rw [dif_pos h1, dif_pos h2] at h
      have := congrArg UInt8.toNat (List.cons.inj h).1
      rw [UInt8.toNat_ofNat', UInt8.toNat_ofNat'] at this
      omega
    · rw [Lib.decDigits_length, Lib.decDigits_length, Lib.nDigits_small h1, Lib.nDigits_big h2] at hl
      have := Lib.nDigits_pos (v / 10)
      omega
    · rw [Lib.decDigits_length, Lib.decDigits_length, Lib.nDigits_small h2, Lib.nDigits_big h1] at hl
      have := Lib.nDigits_pos (u / 10)
      omega
    · rw [dif_neg h1, dif_neg h2] at h
      obtain ⟨h3, h4⟩ := List.append_inj' h rfl
      have h5 := ih (u / 10) (by omega) (v / 10) h3
      have := congrArg UInt8.toNat (List.cons.inj h4).1
      rw [UInt8.toNat_ofNat', UInt8.toNat_ofNat'] at this
      omega
theorem itoa_inj (a b : Int) (h : Lib.itoa a = Lib.itoa b) : a = b := by
  unfold Lib.itoa at h
  have key : ∀ u v : Nat, (45 : UInt8) :: Lib.decDigits u ≠ Lib.decDigits v := fun u v h => by
    have := digits_range v 45 (by rw [← h]; exact List.mem_cons_self)
    exact absurd this.1 (by decide)
  by_cases h1 : a < 0 <;> by_cases h2 : b < 0
  · rw [if_pos h1, if_pos h2] at h
    have := decDigits_inj _ _ (List.cons.inj h).2
    omega
  · rw [if_pos h1, if_neg h2] at h
    exact absurd h (key _ _)
  · rw [if_neg h1, if_pos h2] at h
    exact absurd h.symm (key _ _)
  · rw [if_neg h1, if_neg h2] at h
    have := decDigits_inj _ _ h
    omega
/-- A text's words behind the name. -/
def wordOf (a b c e : Int) (k : Nat) : List UInt8 := if letter k = 105 then Lib.itoa (num a b c e k) else 114 :: Lib.itoa (num a b c e k)
def wordsOf (op a b c e : Int) (pre : List Nat) : List (List UInt8) := (pre.filter (fun k => uses op k)).map (wordOf a b c e)
theorem joined_append (l m : List (List UInt8)) : joined (l ++ m) = joined l ++ joined m := by
  induction l with
  | nil => rfl
  | cons w r ih => simp [joined, ih]
theorem textP_fold (op a b c e : Int) : ∀ (pre : List Nat) (s : ByteArray), (pre.foldl (tstep op a b c e) s).data.toList = s.data.toList ++ joined (wordsOf op a b c e pre)
  | [], s => by simp [wordsOf, joined]
  | x :: pre, s => by
    rw [List.foldl_cons, textP_fold op a b c e pre]
    have hw : wordsOf op a b c e (x :: pre) = (if uses op x = true then [wordOf a b c e x] else []) ++ wordsOf op a b c e pre := by
      unfold wordsOf
      by_cases h : uses op x = true
      · rw [if_pos h, List.filter_cons_of_pos h]; rfl
      · rw [if_neg h, List.filter_cons_of_neg h]; rfl
    rw [hw, joined_append, ← List.append_assoc]
    congr 1
    unfold tstep
    by_cases h : uses op x = true
    · rw [if_pos h, if_pos h]
      by_cases hl : letter x = 105
      · rw [if_pos hl, app_data]
        simp [joined, wordOf, hl, itoaB, app_data]
      · rw [if_neg hl, app_data]
        simp [joined, wordOf, hl, itoaB, app_data]
    · rw [if_neg h, if_neg h]
      simp [joined]
theorem textP_words (op a b c e : Int) (pre : List Nat) : (textP op a b c e pre).data.toList = (nameN op.toNat).data.toList ++ joined (wordsOf op a b c e pre) := textP_fold op a b c e pre _
theorem names_inj (n m : Nat) (hn : n < 26) (hm : m < 26) (h : (nameN n).data.toList = (nameN m).data.toList) : n = m := by
  have key : ∀ n m : Fin 26, (nameN n.1).data.toList = (nameN m.1).data.toList → n = m := by decide +kernel
  exact congrArg Fin.val (key ⟨n, hn⟩ ⟨m, hm⟩ h)
theorem names_noblank (n : Nat) (hn : n < 26) : (32 : UInt8) ∉ (nameN n).data.toList := by
  have key : ∀ n : Fin 26, (32 : UInt8) ∉ (nameN n.1).data.toList := by decide +kernel
  exact key ⟨n, hn⟩
theorem wordsOf_noblank (op a b c e : Int) (pre : List Nat) : ∀ w ∈ wordsOf op a b c e pre, (32 : UInt8) ∉ w := by
  intro w hw
  unfold wordsOf at hw
  obtain ⟨k, _, rfl⟩ := List.mem_map.1 hw
  unfold wordOf
  split
  · exact itoa_noblank _
  · intro h
    rcases List.mem_cons.1 h with h | h
    · exact absurd h (by decide)
    · exact itoa_noblank _ h
theorem wordOf_inj (a b c e a' b' c' e' : Int) (k : Nat) (h : wordOf a b c e k = wordOf a' b' c' e' k) : num a b c e k = num a' b' c' e' k := by
  unfold wordOf at h
  split at h
  · exact itoa_inj _ _ h
  · exact itoa_inj _ _ (List.cons.inj h).2
theorem text_inj (op a b c e op' a' b' c' e' : Int) (h : fitB op a b c e = true) (h' : fitB op' a' b' c' e' = true) (ht : textP op a b c e (List.range 4) = textP op' a' b' c' e' (List.range 4)) : op = op' ∧ a = a' ∧ b = b' ∧ c = c' ∧ e = e' := by
  obtain ⟨r0, r1, _⟩ := fitB_regs h
  obtain ⟨s0, s1, _⟩ := fitB_regs h'
  have hd := congrArg (fun x => x.data.toList) ht
  simp only [textP_words] at hd
  obtain ⟨h1, h2⟩ := joined_eq _ _ _ _ (names_noblank _ (by omega)) (names_noblank _ (by omega)) (wordsOf_noblank _ _ _ _ _ _) (wordsOf_noblank _ _ _ _ _ _) hd
  have hop := names_inj _ _ (by omega) (by omega) h1
  obtain rfl : op = op' := by omega
  have hk : ∀ k, k < 4 → uses op k = true → num a b c e k = num a' b' c' e' k := by
    intro k hk hu
    unfold wordsOf at h2
    have hmem : k ∈ (List.range 4).filter (fun k => uses op k) := List.mem_filter.2 ⟨List.mem_range.2 hk, hu⟩
    have := List.map_inj_left.1 h2 k hmem
    exact wordOf_inj _ _ _ _ _ _ _ _ _ this
  have hz : ∀ k, k < 4 → num a b c e k = num a' b' c' e' k := by
    intro k hkk
    rcases fit_used h k hkk with hu | hu
    · exact hk k hkk hu
    · rcases fit_used h' k hkk with hu' | hu'
      · exact hk k hkk hu'
      · rw [hu, hu']
  exact ⟨rfl, hz 0 (by decide), hz 1 (by decide), hz 2 (by decide), hz 3 (by decide)⟩
end Go.Proofs.YtnebgpegkihgdaaDoor.X
