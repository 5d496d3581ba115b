/- Texts of this claim that stand one behind another, merged. -/
import Derived.Test.YtbelnkdbghggmaaGreatDoorMr8
import Derived.Test.YtbelnkdbghggmaaGreatDoorXx9
import Derived.Test.YtbelnkdbghggmaaGreatDoorMr5
namespace Go.Proofs.YtbelnkdbghggmaaGreatDoor.X
open Go.RowKit Go.Proofs.YtbelnkdbghggmaaGreatDoorW.PrintWords
set_option linter.unusedVariables false
set_option linter.unusedSimpArgs false
abbrev I32 (v : Int) : Prop := -2147483648 ≤ v ∧ v ≤ 2147483647
theorem wrap32_bd (n : Int) : I32 (wrap32 n) := by unfold wrap32 I32; omega
theorem wrap32_id (n : Int) (h : I32 n) : wrap32 n = n := by unfold wrap32; unfold I32 at h; omega
def numF (k : Nat) (s : ByteArray) (a : Int) : Option (Int × Bool) := if a ≥ (-2147483648) then (if a < 2147483648 then ((curtilageref08_Digits.f k a).bind fun t182 => (some (wrap32 (a), (t182.toList == s.toList)))) else (some (wrap32 (a), false))) else (some (wrap32 (a), false))
theorem numF_total (k : Nat) (hk : 30 ≤ k) (s : ByteArray) (a : Int) : ∃ v b, numF k s a = some (v, b) ∧ I32 v := by
  unfold numF
  split
  · split
    · rw [rDigits k hk a (by omega) (by omega)]
      exact ⟨_, _, rfl, wrap32_bd _⟩
    · exact ⟨_, _, rfl, wrap32_bd _⟩
  · exact ⟨_, _, rfl, wrap32_bd _⟩
theorem numF_itoa (k : Nat) (hk : 30 ≤ k) (a : Int) (h : I32 a) : numF k (itoaB a) a = some (a, true) := by
  unfold I32 at h
  unfold numF
  rw [if_pos (by omega), if_pos (by omega), rDigits k hk a (by omega) (by omega), wrap32_id a h]
  simp
theorem num_j (k : Nat) (s : ByteArray) (a i : Int) : curtilageref10_number.j1 (k + 1) s a i false = if s.toList = ([] : List UInt8) then numF k s a else if 0 < (s.size : Int) then (if bt s 0 = 45 then numF k s (wrap64 (-a)) else numF k s a) else none := by
  simp only [curtilageref10_number.j1, numF]
  rfl
theorem num_end (k : Nat) (hk : 31 ≤ k) (s : ByteArray) (a i : Int) : ∃ v b, curtilageref10_number.j1 k s a i false = some (v, b) ∧ I32 v := by
  obtain ⟨k, rfl⟩ : ∃ m, k = m + 1 := ⟨k - 1, by omega⟩
  rw [num_j]
  split
  · exact numF_total k (by omega) s a
  · rename_i h
    have hp : 0 < s.size := by
      rcases Nat.eq_zero_or_pos s.size with h1 | h1
      · exact absurd (by rw [ByteArray.toList_eq]; exact List.length_eq_zero_iff.1 (by rw [← size_data]; exact h1)) h
      · exact h1
    rw [if_pos (by omega)]
    split
    · exact numF_total k (by omega) s _
    · exact numF_total k (by omega) s a
theorem num_total (s : ByteArray) : ∀ (d i k : Nat) (a : Int), i + d = 11 → 3 * d + 40 ≤ k → ∃ v b, curtilageref10_number.l0 k s a (i : Int) = some (v, b) ∧ I32 v
  | 0, i, k, a, hi, hk => by
    obtain ⟨k, rfl⟩ : ∃ m, k = m + 1 := ⟨k - 1, by omega⟩
    simp only [curtilageref10_number.l0]
    split
    · rw [decide_eq_false (by omega)]
      exact num_end k (by omega) s a _
    · exact num_end k (by omega) s a _
  | d + 1, i, k, a, hi, hk => by
    obtain ⟨k, rfl⟩ : ∃ m, k = m + 3 := ⟨k - 3, by omega⟩
    simp only [curtilageref10_number.l0]
    split
    · rename_i hlt
      rw [decide_eq_true (by omega)]
      have hnext : wrap64 ((i : Int) + 1) = ((i + 1 : Nat) : Int) := by rw [w64 _ (by omega) (by omega)]; omega
      have h2 : ∀ z : Bool, ∃ v b, curtilageref10_number.j2 (k + 1) s a (i : Int) z = some (v, b) ∧ I32 v := by
        intro z
        simp only [curtilageref10_number.j2]
        rw [hnext]
        split
        · exact num_total s d (i + 1) k a (by omega) (by omega)
        · try rw [if_pos (by omega)]
          try rw [if_pos hlt]
          split
          · exact ⟨0, false, rfl, by unfold I32; omega⟩
          · split
            · exact ⟨0, false, rfl, by unfold I32; omega⟩
            · exact num_total s d (i + 1) k _ (by omega) (by omega)
      simp only [curtilageref10_number.j1, if_true]
      split
      · try rw [if_pos (by omega)]
        try rw [if_pos hlt]
        exact h2 _
      · exact h2 _
    · exact num_end (k + 2) (by omega) s a _
theorem rNumber_total (K : Nat) (hK : 100 ≤ K) (s : ByteArray) : ∃ v b, curtilageref10_number.f K s = some (v, b) ∧ I32 v := num_total s 11 0 K 0 (by omega) (by omega)
def valN : List UInt8 → Nat → Nat
  | [], a => a
  | c :: r, a => valN r (a * 10 + (c.toNat - 48))
theorem valN_snoc (c : UInt8) : ∀ (l : List UInt8) (a : Nat), valN (l ++ [c]) a = valN l a * 10 + (c.toNat - 48)
  | [], a => rfl
  | x :: l, a => valN_snoc c l _
theorem valN_digits (u : Nat) : valN (Lib.decDigits u) 0 = u := by
  induction u using Nat.strongRecOn with
  | _ u ih =>
    by_cases h : u < 10
    · have e : (UInt8.ofNat (48 + u)).toNat = 48 + u := by rw [UInt8.toNat_ofNat']; omega
      rw [Lib.decDigits_one h]
      simp only [valN, e]
      omega
    · have e : (UInt8.ofNat (48 + u % 10)).toNat = 48 + u % 10 := by rw [UInt8.toNat_ofNat']; omega
      rw [Lib.decDigits, dif_neg h, valN_snoc, ih (u / 10) (by omega), e]
      omega
theorem num_run (s : ByteArray) (hs : s.size ≤ 11) : ∀ (r : List UInt8) (k i a : Nat), s.data.toList.drop i = r → i ≤ s.size → (∀ c ∈ r, 48 ≤ c.toNat ∧ c.toNat ≤ 57) → a < 10 ^ i → 3 * r.length + 40 ≤ k → ∃ k', 31 ≤ k' ∧ curtilageref10_number.l0 k s (a : Int) (i : Int) = curtilageref10_number.j1 k' s ((valN r a : Nat) : Int) (s.size : Int) false
  | [], k, i, a, hd, hi, hr, ha, hk => by
    obtain ⟨k, rfl⟩ : ∃ m, k = m + 1 := ⟨k - 1, by omega⟩
    have hie : i = s.size := by
      have := congrArg List.length hd
      rw [List.length_drop, ← size_data] at this
      simp at this
      omega
    refine ⟨k, by omega, ?_⟩
    simp only [curtilageref10_number.l0]
    rw [if_neg (by omega), hie]
    rfl
  | c :: r, k, i, a, hd, hi, hr, ha, hk => by
    obtain ⟨k, rfl⟩ : ∃ m, k = m + 3 := ⟨k - 3, by omega⟩
    obtain ⟨hlt, hc, hdr⟩ := drop_cons hd
    have hlt2 : i < s.size := hlt
    have hcr := hr c List.mem_cons_self
    simp only [List.length_cons] at hk
    have hb : bt s (i : Int) = (c.toNat : Int) := by rw [bt_get s i hlt, hc]
    have hp : (10 : Nat) ^ i ≤ 10 ^ 11 := Nat.pow_le_pow_right (by decide) (by omega)
    have hp2 : (10 : Nat) ^ 11 = 100000000000 := by decide
    have hnext : wrap64 ((i : Int) + 1) = ((i + 1 : Nat) : Int) := by rw [w64 _ (by omega) (by omega)]; omega
    have ih := num_run s hs r k (i + 1) (a * 10 + (c.toNat - 48)) hdr (by omega) (fun d hd => hr d (List.mem_cons_of_mem _ hd)) (by rw [Nat.pow_succ]; omega) (by omega)
    obtain ⟨k', hk', ih⟩ := ih
    refine ⟨k', hk', Eq.trans ?_ ih⟩
    have hv : wrap64 (wrap64 ((a : Int) * 10) + (((c.toNat : Int) - 48) % 256)) = ((a * 10 + (c.toNat - 48) : Nat) : Int) := by
      rw [w64 ((a : Int) * 10) (by omega) (by omega), w64 _ (by omega) (by omega)]
      omega
    have h2 : curtilageref10_number.j2 (k + 1) s (a : Int) (i : Int) false = curtilageref10_number.l0 k s ((a * 10 + (c.toNat - 48) : Nat) : Int) ((i + 1 : Nat) : Int) := by
      simp only [curtilageref10_number.j2]
      rw [if_neg (by decide), if_pos (by omega), if_pos (by omega), hb, if_neg (by omega), if_neg (by omega), hv, hnext]
    simp only [curtilageref10_number.l0]
    rw [if_pos (by omega), decide_eq_true (by omega)]
    simp only [curtilageref10_number.j1, if_true]
    have hne : ((c.toNat : Int) == 45) = false := by
      rw [beq_eq_false_iff_ne]
      omega
    rw [hb, hne]
    split
    · rw [if_pos (by omega), if_pos (by omega)]
      exact h2
    · exact h2
theorem itoa_size32 (n : Int) (h : I32 n) : (itoaB n).size ≤ 11 := by
  rw [size_data]
  exact itoa_len32 n h.1 h.2
theorem bt_zero {s : ByteArray} {c : UInt8} {r : List UInt8} (h : s.data.toList = c :: r) : bt s 0 = (c.toNat : Int) := by
  have hl : 0 < s.data.toList.length := by rw [h]; simp
  have := bt_get s 0 hl
  simpa [h] using this
theorem toList_ne {s : ByteArray} {c : UInt8} {r : List UInt8} (h : s.data.toList = c :: r) : ¬ s.toList = ([] : List UInt8) ∧ 0 < s.size := by
  refine ⟨fun k => ?_, by rw [size_data, h]; simp⟩
  rw [ByteArray.toList_eq, h] at k
  cases k
theorem rNumber_itoa (K : Nat) (hK : 100 ≤ K) (n : Int) (h : I32 n) : curtilageref10_number.f K (itoaB n) = some (n, true) := by
  have hs := itoa_size32 n h
  unfold curtilageref10_number.f
  by_cases hn : n < 0
  · obtain ⟨u, rfl⟩ : ∃ u : Nat, n = -(u : Int) := ⟨n.natAbs, by omega⟩
    have hd : (itoaB (-(u : Int))).data.toList = 45 :: Lib.decDigits u := by
      show Lib.itoa (-(u : Int)) = _
      rw [Lib.itoa_neg u (by omega)]
    generalize hS : itoaB (-(u : Int)) = s at *
    have h0 := bt_zero hd
    have hne := toList_ne hd
    have hl : (Lib.decDigits u).length ≤ 10 := by
      have := size_data s
      rw [hd, List.length_cons] at this
      omega
    obtain ⟨K, rfl⟩ : ∃ m, K = m + 3 := ⟨K - 3, by omega⟩
    obtain ⟨k', hk', hr⟩ := num_run s hs (Lib.decDigits u) K 1 0 (by rw [hd]; rfl) hne.2 (digits_range u) (by decide) (by omega)
    simp only [curtilageref10_number.l0]
    rw [if_pos (by omega)]
    simp only [curtilageref10_number.j1, decide_true, if_true, show decide ((0 : Int) < 11) = true from rfl]
    rw [if_pos (by omega), if_pos (by omega), h0]
    simp only [curtilageref10_number.j2]
    rw [if_pos (by decide), show wrap64 ((0 : Int) + 1) = ((1 : Nat) : Int) from by unfold wrap64; decide]
    refine Eq.trans hr ?_
    obtain ⟨k', rfl⟩ : ∃ m, k' = m + 1 := ⟨k' - 1, by omega⟩
    rw [num_j, if_neg hne.1, if_pos (by omega), h0, if_pos (by decide), valN_digits, w64 _ (by unfold I32 at h; omega) (by omega)]
    rw [← hS]
    exact numF_itoa k' (by omega) _ h
  · obtain ⟨u, rfl⟩ : ∃ u : Nat, n = (u : Int) := ⟨n.toNat, by omega⟩
    have hd : (itoaB (u : Int)).data.toList = Lib.decDigits u := by
      show Lib.itoa (u : Int) = _
      rw [Lib.itoa_nonneg]
    generalize hS : itoaB (u : Int) = s at *
    have hl : (Lib.decDigits u).length ≤ 11 := by rw [← hd, ← size_data]; exact hs
    obtain ⟨k', hk', hr⟩ := num_run s hs (Lib.decDigits u) K 0 0 (by rw [hd]; rfl) (by omega) (digits_range u) (by decide) (by omega)
    refine Eq.trans hr ?_
    obtain ⟨k', rfl⟩ : ∃ m, k' = m + 1 := ⟨k' - 1, by omega⟩
    have hrange := digits_range u
    have hnn := decDigits_ne u
    cases hq : Lib.decDigits u with
    | nil => exact absurd hq hnn
    | cons c r =>
      have hd2 := hd
      rw [hq] at hd2
      have h0 := bt_zero hd2
      have hne := toList_ne hd2
      have hcr := hrange c (by rw [hq]; exact List.mem_cons_self)
      rw [← hq, num_j, if_neg hne.1, if_pos (by omega), h0, if_neg (by omega), valN_digits]
      rw [← hS]
      exact numF_itoa k' (by omega) _ h
theorem itoa_inj (a b : Int) (ha : I32 a) (hb : I32 b) (h : Lib.itoa a = Lib.itoa b) : a = b := by
  have h1 := parseI_itoa a ha.1 ha.2
  rw [h, parseI_itoa b hb.1 hb.2] at h1
  cases h1
  rfl
theorem rReg_l (t : ByteArray) : ∀ (d i k : Nat), i + d = 16 → d + 40 ≤ k → ∃ v, curtilageref10_register.l0 k t (i : Int) = some v ∧ (-1 ≤ v ∧ v < 16) ∧ ∀ m : Nat, i ≤ m → m < 16 → t.data.toList = 114 :: Lib.itoa (m : Int) → v = (m : Int)
  | 0, i, k, hi, hk => by
    obtain ⟨k, rfl⟩ : ∃ m, k = m + 1 := ⟨k - 1, by omega⟩
    refine ⟨-1, ?_, by omega, fun m h1 h2 _ => by omega⟩
    simp only [curtilageref10_register.l0]
    rw [if_neg (by omega)]
  | d + 1, i, k, hi, hk => by
    obtain ⟨k, rfl⟩ : ∃ m, k = m + 1 := ⟨k - 1, by omega⟩
    have hz := itoaB_size (i : Int) (by omega) (by omega)
    have hdt : ((⟨#[114]⟩ : ByteArray) ++ itoaB (i : Int)).toList = 114 :: Lib.itoa (i : Int) := by
      rw [ByteArray.toList_eq, app_data]
      rfl
    simp only [curtilageref10_register.l0]
    rw [if_pos (by omega), rDigits k (by omega) _ (by omega) (by omega)]
    simp only [Option.bind_some]
    rw [if_pos (by omega), hdt, ByteArray.toList_eq, w64 _ (by omega) (by omega), show ((i : Int) + 1) = ((i + 1 : Nat) : Int) from by omega]
    by_cases he : 114 :: Lib.itoa (i : Int) = t.data.toList
    · rw [if_pos he]
      refine ⟨(i : Int), rfl, by omega, fun m h1 h2 hm => ?_⟩
      rw [← he] at hm
      exact itoa_inj _ _ (by unfold I32; omega) (by unfold I32; omega) (List.cons.inj hm).2
    · rw [if_neg he]
      obtain ⟨v, h1, h2, h3⟩ := rReg_l t d (i + 1) k (by omega) (by omega)
      refine ⟨v, h1, h2, fun m h4 h5 hm => ?_⟩
      rcases Nat.eq_or_lt_of_le h4 with h6 | h6
      · subst h6
        exact absurd hm.symm he
      · exact h3 m h6 h5 hm
theorem rRegister (K : Nat) (hK : 60 ≤ K) (t : ByteArray) : ∃ v, curtilageref10_register.f K t = some v ∧ (-1 ≤ v ∧ v < 16) := by
  obtain ⟨v, h1, h2, _⟩ := rReg_l t 16 0 K (by omega) (by omega)
  exact ⟨v, h1, h2⟩
theorem rRegister_of (K : Nat) (hK : 60 ≤ K) (t : ByteArray) (a : Int) (ha : 0 ≤ a ∧ a < 16) (h : t.data.toList = 114 :: Lib.itoa a) : curtilageref10_register.f K t = some a := by
  obtain ⟨m, rfl⟩ : ∃ m : Nat, a = (m : Int) := ⟨a.toNat, by omega⟩
  obtain ⟨v, h1, _, h3⟩ := rReg_l t 16 0 K (by omega) (by omega)
  rw [← h3 m (by omega) (by omega) h]
  exact h1
theorem target_run (t : ByteArray) (ht : t.size ≤ 1000) (K0 : Nat) : ∀ (a r : List UInt8) (k i : Nat), t.data.toList.drop i = a ++ r → (43 : UInt8) ∉ a → a.length + K0 ≤ k → i ≤ t.size → ∃ k', K0 ≤ k' ∧ i + a.length ≤ t.size ∧ curtilageref10_target.l0 k t (i : Int) = curtilageref10_target.l0 k' t ((i + a.length : Nat) : Int)
  | [], r, k, i, hd, hn, hk, hi => ⟨k, by simpa using hk, by simpa using hi, rfl⟩
  | c :: a, r, k, i, hd, hn, hk, hi => by
    simp only [List.length_cons] at hk
    obtain ⟨k, rfl⟩ : ∃ m, k = m + 1 := ⟨k - 1, by omega⟩
    obtain ⟨hlt, hc, hdr⟩ := drop_cons hd
    have hlt2 : i < t.size := hlt
    obtain ⟨k', h1, h2, h3⟩ := target_run t ht K0 a r k (i + 1) hdr (fun h => hn (List.mem_cons_of_mem _ h)) (by omega) (by omega)
    have hne : ¬ ((c.toNat : Int) = 43) := fun e => hn (by rw [show c = 43 from UInt8.toNat_inj.1 (by show c.toNat = 43; omega)]; exact List.mem_cons_self)
    refine ⟨k', h1, by simp only [List.length_cons]; omega, ?_⟩
    rw [show i + (c :: a).length = i + 1 + a.length from by simp only [List.length_cons]; omega, ← h3]
    simp only [curtilageref10_target.l0]
    rw [if_pos (by omega), if_pos (by omega), bt_get t i hlt, hc, if_neg hne, w64 _ (by omega) (by omega)]
    rfl
theorem span43 : ∀ l : List UInt8, ∃ a r, l = a ++ r ∧ (43 : UInt8) ∉ a ∧ (r = [] ∨ ∃ q, r = 43 :: q)
  | [] => ⟨[], [], rfl, by simp, .inl rfl⟩
  | c :: l => by
    by_cases h : c = 43
    · exact ⟨[], c :: l, rfl, by simp, .inr ⟨l, by rw [h]⟩⟩
    · obtain ⟨a, r, h1, h2, h3⟩ := span43 l
      exact ⟨c :: a, r, by rw [h1]; rfl, fun k => (List.mem_cons.1 k).elim (fun e => h e.symm) h2, h3⟩
theorem target_none (K : Nat) (t : ByteArray) (ht : t.size ≤ 1000) (hK : t.size + 110 ≤ K) (h : (43 : UInt8) ∉ t.data.toList) : curtilageref10_target.f K t = some (t, 0, true) := by
  unfold curtilageref10_target.f
  obtain ⟨k', h1, h2, h3⟩ := target_run t ht 110 t.data.toList [] K 0 (by simp) h (by rw [← size_data]; omega) (by omega)
  refine Eq.trans h3 ?_
  obtain ⟨k', rfl⟩ : ∃ m, k' = m + 1 := ⟨k' - 1, by omega⟩
  simp only [curtilageref10_target.l0]
  rw [if_neg (by rw [← size_data]; omega)]
theorem target_at (K : Nat) (t : ByteArray) (ht : t.size ≤ 1000) (hK : t.size + 110 ≤ K) (a q : List UInt8) (he : t.data.toList = a ++ 43 :: q) (h : (43 : UInt8) ∉ a) : ∃ k', 100 ≤ k' ∧ curtilageref10_target.f K t = (curtilageref10_number.f k' (toB q)).bind fun b => some (toB a, b.1, b.2) := by
  unfold curtilageref10_target.f
  have hz : t.size = a.length + 1 + q.length := by rw [size_data, he]; simp; omega
  obtain ⟨k', h1, h2, h3⟩ := target_run t ht 110 a (43 :: q) K 0 (by simpa using he) h (by omega) (by omega)
  obtain ⟨k', rfl⟩ : ∃ m, k' = m + 1 := ⟨k' - 1, by omega⟩
  refine ⟨k', by omega, Eq.trans h3 ?_⟩
  have hlt : 0 + a.length < t.data.toList.length := by rw [← size_data]; omega
  have hb : bt t ((0 + a.length : Nat) : Int) = 43 := by
    rw [bt_get t _ hlt]
    simp [he]
  have e1 : t.extract ((wrap64 (((0 + a.length : Nat) : Int) + 1) : Int).toNat) t.size = toB q := by
    apply ba_ext
    rw [w64 _ (by omega) (by omega), ext_data, toB_data, show ((((0 + a.length : Nat) : Int) + 1) : Int).toNat = a.length + 1 from by omega, he, hz]
    rw [show a ++ 43 :: q = (a ++ [43]) ++ q from by simp, List.drop_left' (by simp)]
    exact List.take_of_length_le (by omega)
  have e2 : t.extract 0 ((((0 + a.length : Nat) : Int)) : Int).toNat = toB a := by
    apply ba_ext
    rw [ext_data, toB_data, he]
    simp
  simp only [curtilageref10_target.l0]
  rw [if_pos (by omega), if_pos (by omega), if_pos hb, e1, e2]
  rw [if_pos (by rw [w64 _ (by omega) (by omega)]; omega), if_pos (by rw [w64 _ (by omega) (by omega)]; omega)]
  refine congrArg (fun g => Option.bind (curtilageref10_number.f k' (toB q)) g) (funext fun b => ?_)
  rw [if_pos (by omega)]
theorem target_total (K : Nat) (t : ByteArray) (ht : t.size ≤ 1000) (hK : t.size + 110 ≤ K) : ∃ m v b, curtilageref10_target.f K t = some (m, v, b) ∧ m.size ≤ t.size ∧ I32 v := by
  obtain ⟨a, r, h1, h2, h3⟩ := span43 t.data.toList
  rcases h3 with rfl | ⟨q, rfl⟩
  · rw [List.append_nil] at h1
    rw [target_none K t ht hK (by rw [h1]; exact h2)]
    exact ⟨t, 0, true, rfl, Nat.le_refl _, by unfold I32; omega⟩
  · obtain ⟨k', hk', h4⟩ := target_at K t ht hK a q h1 h2
    obtain ⟨v, b, h5, h6⟩ := rNumber_total k' hk' (toB q)
    rw [h4, h5]
    refine ⟨toB a, v, b, rfl, ?_, h6⟩
    rw [size_data, size_data, h1, toB_data]
    simp
end Go.Proofs.YtbelnkdbghggmaaGreatDoor.X
namespace Go.Proofs.YtbelnkdbghggmaaGreatDoor.X
open Go.RowKit Go.Proofs.YtbelnkdbghggmaaGreatDoorW.PrintWords
set_option linter.unusedVariables false
set_option linter.unusedSimpArgs false
/-- What a reader answers, as a line. -/
def lineOf (r : RS) : S40 := ⟨r.1, ⟨r.2.1, r.2.2.1, r.2.2.2.1, r.2.2.2.2.1, r.2.2.2.2.2.1⟩, r.2.2.2.2.2.2.1⟩
def okOf (r : RS) : Bool := r.2.2.2.2.2.2.2
def tellR (x : S40) (b : Bool) : RS := (x.f0, x.f1.f0, x.f1.f1, x.f1.f2, x.f1.f3, x.f1.f4, x.f2, b)
def Sound (t : ByteArray) (r : RS) : Prop := okOf r = true → wfX (lineOf r) ∧ goodB (lineOf r) = true ∧ lineT (lineOf r) = t.data.toList
def Post (t : ByteArray) (r : RS) : Prop := Sound t r ∧ ∀ x : S40, wfX x → goodB x = true → lineT x = t.data.toList → r = tellR x true
theorem lineOf_tell (x : S40) (b : Bool) : lineOf (tellR x b) = x := rfl
theorem line_mark {x : S40} (h0 : ¬ x.f0.toList = []) : lineT x = x.f0.data.toList ++ [58] := by unfold lineT; rw [if_neg h0]
theorem toList_iff (a : ByteArray) : a.toList = [] ↔ a.data.toList = [] := by rw [ByteArray.toList_eq]
theorem empty_list : (⟨#[]⟩ : ByteArray).toList = [] := by rw [ByteArray.toList_eq]
/-- A mark's line. -/
def markL (m : ByteArray) : S40 := ⟨m, ⟨0, 0, 0, 0, 0⟩, ⟨#[]⟩⟩
theorem mark_good (m : ByteArray) (hm : ¬ m.toList = []) : goodB (markL m) = namedB m := by
  unfold goodB markL
  rw [if_neg hm]
  simp [empty_list]
theorem named_nil (m : ByteArray) (hm : m.toList = []) : namedB m = false := by
  have : m.size = 0 := by rw [size_data, (toList_iff m).1 hm]; rfl
  unfold namedB
  rw [this]
  simp
theorem mark_wf (m : ByteArray) (hs : m.size ≤ 200000) : wfX (markL m) := by
  refine ⟨⟨by show (-2147483648 : Int) ≤ 0; decide, by show (0 : Int) ≤ 2147483647; decide⟩, by show m.size ≤ _; omega, ?_⟩
  show (0 : Nat) ≤ _
  omega
theorem good_mark {x : S40} (h : goodB x = true) (h0 : ¬ x.f0.toList = []) : x = markL x.f0 := by
  rcases good_cases h with ⟨h1, _⟩ | ⟨_, _, ⟨a, b, c, d, e⟩, h2⟩
  · exact absurd h1 h0
  · have := nil_data h2
    obtain ⟨m, ⟨p, q, r, s, u⟩, t⟩ := x
    simp only at a b c d e this
    subst a b c d e this
    rfl
theorem mark_post (t m : ByteArray) (ht : t.data.toList = m.data.toList ++ [58]) (hs : t.size ≤ 100000) : Post t (tellR (markL m) (namedB m)) := by
  have hms : m.size ≤ 100000 := by rw [size_data, ht, List.length_append] at hs; rw [size_data]; omega
  constructor
  · intro hok
    have hn : namedB m = true := hok
    rw [lineOf_tell]
    by_cases hm : m.toList = []
    · rw [named_nil m hm] at hn; cases hn
    · refine ⟨mark_wf m (by omega), by rw [mark_good m hm]; exact hn, ?_⟩
      rw [ht]
      exact line_mark hm
  · intro x hw hg hl
    have h0 : ¬ x.f0.toList = [] := by
      intro h0
      have := (line_chars hg).2.1 h0
      rw [hl, ht] at this
      exact this (by simp)
    rw [line_mark h0, ht] at hl
    have hm : x.f0 = m := ba_ext (List.append_cancel_right hl)
    have hx := good_mark hg h0
    rw [hm] at hx
    rw [hx, mark_good m (by rw [← hm]; exact h0)] at hg
    rw [hx, hg]
/-- The kinds of shapes. -/
theorem kinds (op : Int) (h : 0 ≤ op ∧ op < 26) : (shapeOf op = ⟨#[]⟩ ∧ (List.range 4).filter (fun k => uses op k) = []) ∨ (shapeOf op = ⟨#[97]⟩ ∧ (List.range 4).filter (fun k => uses op k) = [0]) ∨ (shapeOf op = ⟨#[105]⟩ ∧ (List.range 4).filter (fun k => uses op k) = [3]) ∨ (shapeOf op = ⟨#[97, 98]⟩ ∧ (List.range 4).filter (fun k => uses op k) = [0, 1]) ∨ (shapeOf op = ⟨#[97, 105]⟩ ∧ (List.range 4).filter (fun k => uses op k) = [0, 3]) ∨ (shapeOf op = ⟨#[97, 98, 105]⟩ ∧ (List.range 4).filter (fun k => uses op k) = [0, 1, 3]) ∨ (shapeOf op = ⟨#[97, 98, 99]⟩ ∧ (List.range 4).filter (fun k => uses op k) = [0, 1, 2]) := by
  obtain ⟨n, rfl⟩ : ∃ n : Nat, op = (n : Int) := ⟨op.toNat, by omega⟩
  have key : ∀ n : Fin 26, (shapeOf (n.1 : Int) = ⟨#[]⟩ ∧ (List.range 4).filter (fun k => uses (n.1 : Int) k) = []) ∨ (shapeOf (n.1 : Int) = ⟨#[97]⟩ ∧ (List.range 4).filter (fun k => uses (n.1 : Int) k) = [0]) ∨ (shapeOf (n.1 : Int) = ⟨#[105]⟩ ∧ (List.range 4).filter (fun k => uses (n.1 : Int) k) = [3]) ∨ (shapeOf (n.1 : Int) = ⟨#[97, 98]⟩ ∧ (List.range 4).filter (fun k => uses (n.1 : Int) k) = [0, 1]) ∨ (shapeOf (n.1 : Int) = ⟨#[97, 105]⟩ ∧ (List.range 4).filter (fun k => uses (n.1 : Int) k) = [0, 3]) ∨ (shapeOf (n.1 : Int) = ⟨#[97, 98, 105]⟩ ∧ (List.range 4).filter (fun k => uses (n.1 : Int) k) = [0, 1, 3]) ∨ (shapeOf (n.1 : Int) = ⟨#[97, 98, 99]⟩ ∧ (List.range 4).filter (fun k => uses (n.1 : Int) k) = [0, 1, 2]) := by decide +kernel
  exact key ⟨n, by omega⟩
def wordX (x : S40) (k : Nat) : List UInt8 := if k = 3 then wordI x else 114 :: Lib.itoa (num x.f1.f1 x.f1.f2 x.f1.f3 0 k)
theorem lineWords_eq (x : S40) : lineWords x = ((List.range 4).filter (fun k => uses x.f1.f0 k)).map (wordX x) := by
  unfold lineWords preW wordsOf
  rw [show List.range 4 = List.range 3 ++ [3] from rfl, List.filter_append, List.map_append]
  have h3 : ∀ k ∈ (List.range 3).filter (fun k => uses x.f1.f0 k), wordOf x.f1.f1 x.f1.f2 x.f1.f3 0 k = wordX x k := by
    intro k hk
    have hk2 : k < 3 := List.mem_range.1 (List.mem_filter.1 hk).1
    have : k = 0 ∨ k = 1 ∨ k = 2 := by omega
    rcases this with rfl | rfl | rfl <;> rfl
  rw [List.map_congr_left h3]
  by_cases h : uses x.f1.f0 3 = true
  · rw [if_pos h, List.filter_cons_of_pos h]; rfl
  · rw [if_neg h, List.filter_cons_of_neg h]; rfl
theorem uses_kind {op : Int} {l : List Nat} (h : (List.range 4).filter (fun k => uses op k) = l) (k : Nat) (hk : k < 4) : uses op k = true ↔ k ∈ l := by
  rw [← h, List.mem_filter]
  exact ⟨fun hu => ⟨List.mem_range.2 hk, hu⟩, fun hm => hm.2⟩
/-- What is not used is 0, and no mark stands where there is no number. -/
theorem zeros_of {x : S40} (h0 : x.f0.toList = []) (h : goodB x = true) {l : List Nat} (hl : (List.range 4).filter (fun k => uses x.f1.f0 k) = l) : (0 ∉ l → x.f1.f1 = 0) ∧ (1 ∉ l → x.f1.f2 = 0) ∧ (2 ∉ l → x.f1.f3 = 0) ∧ (3 ∉ l → x.f1.f4 = 0 ∧ x.f2 = ⟨#[]⟩) := by
  rcases good_cases h with ⟨_, hf, ht⟩ | ⟨h1, _⟩
  · have hu := fun k hk (hn : k ∉ l) => (fit_used hf k hk).resolve_left (fun e => hn ((uses_kind hl k hk).1 e))
    refine ⟨hu 0 (by decide), hu 1 (by decide), hu 2 (by decide), fun hn => ⟨hu 3 (by decide) hn, ?_⟩⟩
    rcases ht with ht | ⟨_, _, hg, _⟩
    · exact nil_data ht
    · exact absurd ((uses_kind hl 3 (by decide)).1 (uses_goes hg)) hn
  · exact absurd h0 h1
theorem good_regs {x : S40} (h0 : x.f0.toList = []) (h : goodB x = true) : (0 ≤ x.f1.f0 ∧ x.f1.f0 < 26) ∧ (0 ≤ x.f1.f1 ∧ x.f1.f1 < 16) ∧ (0 ≤ x.f1.f2 ∧ x.f1.f2 < 16) ∧ (0 ≤ x.f1.f3 ∧ x.f1.f3 < 16) := by
  rcases good_cases h with ⟨_, hf, _⟩ | ⟨h1, _⟩
  · have := fitB_regs hf
    omega
  · exact absurd h0 h1
/-- The words of a good line's text. -/
theorem line_words {x : S40} (h0 : x.f0.toList = []) (h : goodB x = true) : lineT x = (nameN x.f1.f0.toNat).data.toList ++ joined (lineWords x) ∧ (32 : UInt8) ∉ (nameN x.f1.f0.toNat).data.toList ∧ ∀ w ∈ lineWords x, (32 : UInt8) ∉ w := by
  have hr := (good_regs h0 h).1
  refine ⟨by unfold lineT; rw [if_pos h0], fun hc => (names_chars _ (by omega) 32 hc).1.2.1 rfl, fun w hw hc => (words_chars h0 h w hw 32 hc).2.1 rfl⟩
/-- The reference's text of a good line. -/
theorem rLine (K : Nat) (hK : 50 ≤ K) {x : S40} (hw : wfX x) (h : goodB x = true) : curtilageref10_line.f K x.f0 x.f1.f0 x.f1.f1 x.f1.f2 x.f1.f3 x.f1.f4 x.f2 = some (toB (lineT x)) := by
  unfold curtilageref10_line.f
  rcases good_cases h with ⟨h0, hf, ht⟩ | ⟨h0, hn, _, h2⟩
  · rw [if_pos h0, rText K (by omega) _ _ _ _ _ hw.1, if_pos hf]
    simp only [Option.bind_some]
    rcases ht with ht | ⟨ht, hn, hg, hj⟩
    · rw [if_pos ht]
      exact congrArg some (eq_of_data (line_fit h0 ht).symm)
    · have hs := textX_size hw hf
      have ha := ahead_size hw hf hg
      have hN := (named_size hn).2
      have hI := itoaB_size x.f1.f4 (by have := hw.1; omega) (by have := hw.1; omega)
      have h64 : wrap64 x.f1.f4 = x.f1.f4 := by unfold wrap64; have := hw.1; omega
      have z64 : (⟨#[64]⟩ : ByteArray).size = 1 := rfl
      have z43 : (⟨#[43]⟩ : ByteArray).size = 1 := rfl
      rw [if_neg ht, h64, rDigits K (by omega) _ (by have := hw.1; omega) (by have := hw.1; omega), text_goes hg]
      simp only [Option.bind_some]
      have hsz : wrap64 (((ahead x ++ itoaB x.f1.f4).size : Int) - ((itoaB x.f1.f4).size : Int)) = ((ahead x).size : Int) := by
        rw [bsize_append, w64 _ (by omega) (by omega)]
        omega
      have hex : (ahead x ++ itoaB x.f1.f4).extract 0 ((ahead x).size : Int).toNat = ahead x := by
        apply ba_ext
        rw [ext_data, app_data, show (((ahead x).size : Int).toNat - 0) = (ahead x).data.toList.length from by rw [← size_data]; omega]
        simp
      rw [hsz, hex, if_pos (by omega), if_pos (by rw [bsize_append]; omega), if_pos (by omega), if_pos (by rw [bsize_append, z64]; omega), line_goes h0 hg ht]
      by_cases he : x.f1.f4 = 0
      · rw [if_pos he, if_pos he]
        have hh : some ((ahead x ++ (⟨#[64]⟩ : ByteArray)) ++ x.f2) = some (toB ((ahead x).data.toList ++ 64 :: (x.f2.data.toList ++ []))) := by
          refine congrArg some (ba_ext ?_)
          rw [toB_data, app_data, app_data]
          simp
        split
        · exact hh
        · exact hh
      · have h1 : x.f1.f0 = 1 := Classical.byContradiction fun h1 => he (hj h1)
        rw [if_pos h1, if_neg he, if_neg he, if_pos (by rw [bsize_append, bsize_append, z64]; omega), if_pos (by rw [bsize_append, bsize_append, bsize_append, z64, z43]; omega)]
        refine congrArg some (ba_ext ?_)
        rw [toB_data]
        simp only [app_data]
        simp [itoaB]
  · have hN := (named_size hn).2
    rw [if_neg h0, if_pos (by omega)]
    unfold lineT
    rw [if_neg h0]
    refine congrArg some (ba_ext ?_)
    rw [toB_data, app_data]
theorem wordI_data {x : S40} (hg : goodB x = true) (h0 : x.f0.toList = []) : (x.f2 = ⟨#[]⟩ ∧ wordI x = Lib.itoa x.f1.f4) ∨ (x.f2.toList ≠ [] ∧ namedB x.f2 = true ∧ ((x.f1.f4 = 0 ∧ wordI x = 64 :: x.f2.data.toList) ∨ (x.f1.f4 ≠ 0 ∧ wordI x = 64 :: (x.f2.data.toList ++ 43 :: Lib.itoa x.f1.f4)))) := by
  unfold wordI
  rcases good_cases hg with ⟨_, _, ht | ⟨ht, hn, _⟩⟩ | ⟨h1, _⟩
  · exact .inl ⟨nil_data ht, if_pos ht⟩
  · refine .inr ⟨ht, hn, ?_⟩
    rw [if_neg ht]
    by_cases he : x.f1.f4 = 0
    · exact .inl ⟨he, if_pos he⟩
    · exact .inr ⟨he, if_neg he⟩
  · exact absurd h0 h1
theorem itoa_head (n : Int) : ∃ c r, Lib.itoa n = c :: r ∧ c ≠ 64 ∧ c ≠ 43 ∧ c ≠ 114 := by
  have h := itoa_wch n
  cases hq : Lib.itoa n with
  | nil =>
    exfalso
    unfold Lib.itoa at hq
    split at hq
    · cases hq
    · exact decDigits_ne _ hq
  | cons c r =>
    have := h c (by rw [hq]; exact List.mem_cons_self)
    exact ⟨c, r, rfl, this.2.1, this.2.2.1, this.2.2.2⟩
end Go.Proofs.YtbelnkdbghggmaaGreatDoor.X
namespace Go.Proofs.YtbelnkdbghggmaaGreatDoor.X
open Go.RowKit Go.Proofs.YtbelnkdbghggmaaGreatDoorW.PrintWords
set_option linter.unusedVariables false
set_option linter.unusedSimpArgs false
theorem numB_itoa (n : Int) (h : I32 n) : numB (toB (Lib.itoa n)) = (n, true) := by
  unfold numB
  rw [toB_data, parseI_itoa n h.1 h.2]
theorem numB_bd (s : ByteArray) : I32 (numB s).1 := by
  unfold numB
  cases hp : Lib.parseIntB 32 s.data.toList with
  | ok v =>
    have hv := Lib.parseIntB_bounds hp
    show I32 v
    have : ((2 ^ (32 - 1) : Nat) : Int) = 2147483648 := by decide
    unfold I32
    omega
  | «syntax» => show I32 0; unfold I32; omega
  | range => exact wrap32_bd _
theorem number_val (s : ByteArray) (h : s.size ≤ 200000) : asm_number.f s = some (numB s) := by
  unfold asm_number.f
  rw [if_pos (by omega)]
theorem prefix_yes (c : UInt8) (l : List UInt8) : strings_CutPrefix.f (toB (c :: l)) ⟨#[c]⟩ = some (toB l, true) := by
  unfold strings_CutPrefix.f Lib.trimPrefix Lib.hasPrefix
  simp [toB, List.isPrefixOf]
theorem prefix_no (c d : UInt8) (l : List UInt8) (h : d ≠ c) : strings_CutPrefix.f (toB (d :: l)) ⟨#[c]⟩ = some (toB (d :: l), false) := by
  unfold strings_CutPrefix.f Lib.trimPrefix Lib.hasPrefix
  have : ([c] : List UInt8).isPrefixOf (d :: l) = false := by simp [List.isPrefixOf, Ne.symm h]
  simp [toB, List.isPrefixOf, Ne.symm h]
theorem prefix_size (s p : ByteArray) : ∃ m b, strings_CutPrefix.f s p = some (m, b) ∧ m.size ≤ s.size := by
  refine ⟨_, _, rfl, ?_⟩
  rw [size_data, size_data]
  show (Lib.trimPrefix s.data.toList p.data.toList).length ≤ _
  unfold Lib.trimPrefix
  split
  · rw [List.length_drop]; omega
  · exact Nat.le_refl _
theorem cut_size (s p : ByteArray) (hs : s.size ≤ 200000) : ∃ a b f, strings_Cut.f s p = some (a, b, f) ∧ a.size ≤ s.size ∧ b.size ≤ s.size := by
  unfold strings_Cut.f
  rw [if_pos (by omega)]
  refine ⟨_, _, _, rfl, ?_, ?_⟩
  · rw [size_data, size_data]
    show (Lib.cut s.data.toList p.data.toList).1.length ≤ _
    unfold Lib.cut
    split
    · rw [List.length_take]; omega
    · exact Nat.le_refl _
  · rw [size_data, size_data]
    show (Lib.cut s.data.toList p.data.toList).2.1.length ≤ _
    unfold Lib.cut
    split
    · rw [List.length_drop]; omega
    · simp
/-- A state that the reader can be in. -/
def StA (s : RS) : Prop := (lineOf s).f0 = ⟨#[]⟩ ∧ I32 (lineOf s).f1.f4 ∧ (lineOf s).f2.size ≤ 100000
theorem reg_total (s : RS) (w : ByteArray) (hw : w.size ≤ 100000) : ∃ v b, asm_reader_register.f s.1 s.2.1 s.2.2.1 s.2.2.2.1 s.2.2.2.2.1 s.2.2.2.2.2.1 s.2.2.2.2.2.2.1 s.2.2.2.2.2.2.2 w = some (v, s.1, s.2.1, s.2.2.1, s.2.2.2.1, s.2.2.2.2.1, s.2.2.2.2.2.1, s.2.2.2.2.2.2.1, b) := by
  obtain ⟨m, b, h1, h2⟩ := prefix_size w ⟨#[114]⟩
  unfold asm_reader_register.f
  rw [h1]
  simp only [Option.bind_some]
  rw [number_val m (by omega)]
  simp only [Option.bind_some]
  split
  · split
    · exact ⟨_, _, rfl⟩
    · exact ⟨_, _, rfl⟩
  · exact ⟨_, _, rfl⟩
theorem val_total (s : RS) (w : ByteArray) (hw : w.size ≤ 100000) (hs : StA s) : ∃ s', asm_reader_value.f s.1 s.2.1 s.2.2.1 s.2.2.2.1 s.2.2.2.2.1 s.2.2.2.2.2.1 s.2.2.2.2.2.2.1 s.2.2.2.2.2.2.2 w = some s' ∧ StA s' := by
  obtain ⟨m, b, h1, h2⟩ := prefix_size w ⟨#[64]⟩
  obtain ⟨p, q, f, h3, h4, h5⟩ := cut_size m ⟨#[43]⟩ (by omega)
  have n1 := number_val q (by omega)
  have n2 := number_val (⟨#[48]⟩ : ByteArray) (by decide)
  have n3 := number_val w (by omega)
  have b1 := numB_bd q
  have b2 := numB_bd (⟨#[48]⟩ : ByteArray)
  have b3 := numB_bd w
  unfold asm_reader_value.f
  rw [h1]
  simp only [Option.bind_some]
  rw [h3, n3]
  simp only [Option.bind_some]
  rw [n1, n2]
  simp only [Option.bind_some]
  repeat' split
  all_goals first
    | exact ⟨_, rfl, hs.1, b1, (by show p.size ≤ 100000; omega)⟩
    | exact ⟨_, rfl, hs.1, b2, (by show p.size ≤ 100000; omega)⟩
    | exact ⟨_, rfl, hs.1, b3, hs.2.2⟩
theorem part_total (s : RS) (c : Int) (w : ByteArray) (hw : w.size ≤ 100000) (hs : StA s) : ∃ s', partR s c w = some s' ∧ StA s' := by
  unfold partR asm_reader_part.f
  obtain ⟨v, b, hr⟩ := reg_total s w hw
  obtain ⟨s', h1, h2⟩ := val_total s w hw hs
  rw [hr, h1]
  simp only [Option.bind_some]
  split
  · exact ⟨_, rfl, hs⟩
  · split
    · exact ⟨_, rfl, hs⟩
    · split
      · exact ⟨_, rfl, hs⟩
      · exact ⟨_, rfl, h2⟩
theorem parts_total (ws : List ByteArray) (sh : ByteArray) (op : Int) (hl : ws.length = sh.size + 1) (hz : ∀ w ∈ ws, w.size ≤ 100000) (hsh : ∀ i, i < sh.size → (sh.data.getD i 0).toNat < 128) : ∀ n, n ≤ sh.size → ∃ s, partsUpto ws sh op n = some s ∧ StA s
  | 0, _ => ⟨_, rfl, rfl, by show I32 0; unfold I32; omega, by show (0 : Nat) ≤ 100000; omega⟩
  | i + 1, hi => by
    obtain ⟨s, h1, h2⟩ := parts_total ws sh op hl hz hsh i (by omega)
    have hlt : i + 1 < ws.length := by omega
    have hmem : rdOf ByteArray.empty ws ((i + 1 : Nat) : Int) ∈ ws := by
      unfold rdOf
      rw [show (((i + 1 : Nat) : Int)).toNat = i + 1 from by omega, List.getD_eq_getElem?_getD, List.getElem?_eq_getElem hlt]
      exact List.getElem_mem hlt
    obtain ⟨s', h3, h4⟩ := part_total s ((sh.data.getD i 0).toNat : Int) _ (hz _ hmem) h2
    refine ⟨s', ?_, h4⟩
    simp only [partsUpto]
    rw [if_pos ⟨hlt, hsh i (by omega)⟩, h1]
    simp only [Option.bind_some]
    exact h3
/-- A register that is written is read. -/
theorem reg_of (s : RS) (hok : okOf s = true) (a : Int) (ha : 0 ≤ a ∧ a < 16) : asm_reader_register.f s.1 s.2.1 s.2.2.1 s.2.2.2.1 s.2.2.2.2.1 s.2.2.2.2.2.1 s.2.2.2.2.2.2.1 s.2.2.2.2.2.2.2 (toB (114 :: Lib.itoa a)) = some (a, s.1, s.2.1, s.2.2.1, s.2.2.2.1, s.2.2.2.2.1, s.2.2.2.2.2.1, s.2.2.2.2.2.2.1, true) := by
  have hs := itoa_len32 a (by omega) (by omega)
  have hok2 : s.2.2.2.2.2.2.2 = true := hok
  unfold asm_reader_register.f
  rw [prefix_yes]
  simp only [Option.bind_some]
  rw [number_val _ (by rw [size_data, toB_data]; omega), numB_itoa a (by unfold I32; omega), hok2]
  simp only [Option.bind_some, if_true]
  rw [w64 _ (by omega) (by omega)]
theorem val_of (y : S40) (hy : goodB y = true) (hyw : wfX y) (hy0 : y.f0.toList = []) (s : RS) (hok : okOf s = true) (h2 : s.2.2.2.2.2.2.1 = ⟨#[]⟩) :
    asm_reader_value.f s.1 s.2.1 s.2.2.1 s.2.2.2.1 s.2.2.2.2.1 s.2.2.2.2.2.1 s.2.2.2.2.2.2.1 s.2.2.2.2.2.2.2 (toB (wordI y)) = some (s.1, s.2.1, s.2.2.1, s.2.2.2.1, s.2.2.2.2.1, y.f1.f4, y.f2, true) := by
  have hok2 : s.2.2.2.2.2.2.2 = true := hok
  have h32 : I32 y.f1.f4 := hyw.1
  have hil := itoa_len32 y.f1.f4 h32.1 h32.2
  unfold asm_reader_value.f
  rcases wordI_data hy hy0 with ⟨hf, hwi⟩ | ⟨hf, hn, hwi⟩
  · obtain ⟨c, r, hc, h64, _⟩ := itoa_head y.f1.f4
    rw [hwi, hc, prefix_no 64 c r h64]
    simp only [Option.bind_some]
    rw [if_neg (by decide), ← hc, number_val _ (by rw [size_data, toB_data]; omega), numB_itoa _ h32, hok2]
    simp only [Option.bind_some, if_true]
    rw [h2, hf]
  · have hN := (named_size hn).2
    have hnc := named_chars hn
    have hno : (43 : UInt8) ∉ y.f2.data.toList := fun h => (hnc 43 h).2.1 rfl
    rcases hwi with ⟨he, hwi⟩ | ⟨he, hwi⟩
    · have hcut : strings_Cut.f (toB y.f2.data.toList) (⟨#[43]⟩ : ByteArray) = some (y.f2, ⟨#[]⟩, false) := by
        unfold strings_Cut.f cutB
        rw [if_pos (by rw [size_data, toB_data, ← size_data]; omega), toB_data, show (⟨#[43]⟩ : ByteArray).data.toList = [43] from rfl, cut_none 43 _ hno]
        try rw [of_data]
      rw [hwi, prefix_yes]
      simp only [Option.bind_some, if_true]
      rw [hcut, hok2]
      simp only [Option.bind_some, if_true]
      rw [if_neg (by decide), number_val _ (by decide), show numB (⟨#[48]⟩ : ByteArray) = (0, true) from by decide +kernel]
      simp only [Option.bind_some]
      rw [if_neg hf, he]
    · have hcut : strings_Cut.f (toB (y.f2.data.toList ++ 43 :: Lib.itoa y.f1.f4)) (⟨#[43]⟩ : ByteArray) = some (y.f2, toB (Lib.itoa y.f1.f4), true) := by
        unfold strings_Cut.f cutB
        rw [if_pos (by rw [size_data, toB_data, List.length_append, List.length_cons, ← size_data]; omega), toB_data, show (⟨#[43]⟩ : ByteArray).data.toList = [43] from rfl, cut_at 43 _ _ hno]
        rw [of_data]
        try rfl
      rw [hwi, prefix_yes]
      simp only [Option.bind_some, if_true]
      rw [hcut, hok2]
      simp only [Option.bind_some, if_true]
      rw [number_val _ (by rw [size_data, toB_data]; omega), numB_itoa _ h32]
      simp only [Option.bind_some]
      rw [if_neg hf]
theorem part_a (s : RS) (hok : okOf s = true) (a : Int) (ha : 0 ≤ a ∧ a < 16) : partR s 97 (toB (114 :: Lib.itoa a)) = some (s.1, s.2.1, a, s.2.2.2.1, s.2.2.2.2.1, s.2.2.2.2.2.1, s.2.2.2.2.2.2.1, true) := by
  unfold partR asm_reader_part.f
  rw [reg_of s hok a ha]
  rfl
theorem part_b (s : RS) (hok : okOf s = true) (a : Int) (ha : 0 ≤ a ∧ a < 16) : partR s 98 (toB (114 :: Lib.itoa a)) = some (s.1, s.2.1, s.2.2.1, a, s.2.2.2.2.1, s.2.2.2.2.2.1, s.2.2.2.2.2.2.1, true) := by
  unfold partR asm_reader_part.f
  rw [reg_of s hok a ha]
  rfl
theorem part_c (s : RS) (hok : okOf s = true) (a : Int) (ha : 0 ≤ a ∧ a < 16) : partR s 99 (toB (114 :: Lib.itoa a)) = some (s.1, s.2.1, s.2.2.1, s.2.2.2.1, a, s.2.2.2.2.2.1, s.2.2.2.2.2.2.1, true) := by
  unfold partR asm_reader_part.f
  rw [reg_of s hok a ha]
  rfl
theorem part_i (y : S40) (hy : goodB y = true) (hyw : wfX y) (hy0 : y.f0.toList = []) (s : RS) (hok : okOf s = true) (h2 : s.2.2.2.2.2.2.1 = ⟨#[]⟩) : partR s 105 (toB (wordI y)) = some (s.1, s.2.1, s.2.2.1, s.2.2.2.1, s.2.2.2.2.1, y.f1.f4, y.f2, true) := by
  unfold partR asm_reader_part.f
  rw [val_of y hy hyw hy0 s hok h2]
  rfl
/-- The parts of a good line are read. -/
theorem parts_of (y : S40) (hy : goodB y = true) (hyw : wfX y) (hy0 : y.f0.toList = []) : asm_parts.f ((((nameN y.f1.f0.toNat).data.toList) :: lineWords y).map toB) (shapeOf y.f1.f0) y.f1.f0 = some (tellR y true) := by
  obtain ⟨hop, ha, hb, hc⟩ := good_regs hy0 hy
  have hf0 := nil_data hy0
  rw [lineWords_eq]
  have na : num y.f1.f1 y.f1.f2 y.f1.f3 0 0 = y.f1.f1 := rfl
  have nb : num y.f1.f1 y.f1.f2 y.f1.f3 0 1 = y.f1.f2 := rfl
  have nc : num y.f1.f1 y.f1.f2 y.f1.f3 0 2 = y.f1.f3 := rfl
  have w0 : wordX y 0 = 114 :: Lib.itoa y.f1.f1 := rfl
  have w1 : wordX y 1 = 114 :: Lib.itoa y.f1.f2 := rfl
  have w2 : wordX y 2 = 114 :: Lib.itoa y.f1.f3 := rfl
  have w3 : wordX y 3 = wordI y := rfl
  have pa := fun (s : RS) (h : okOf s = true) => part_a s h _ ha
  have pb := fun (s : RS) (h : okOf s = true) => part_b s h _ hb
  have pc := fun (s : RS) (h : okOf s = true) => part_c s h _ hc
  have pi := part_i y hy hyw hy0
  have fin : ∀ s : RS, s = tellR y true → some s = some (tellR y true) := fun s h => congrArg some h
  obtain ⟨m, ⟨op, a, b, c, e⟩, tq⟩ := y
  simp only at *
  subst hf0
  rcases kinds op hop with ⟨hs, hk⟩ | ⟨hs, hk⟩ | ⟨hs, hk⟩ | ⟨hs, hk⟩ | ⟨hs, hk⟩ | ⟨hs, hk⟩ | ⟨hs, hk⟩
  all_goals
    obtain ⟨z0, z1, z2, z3⟩ := zeros_of hy0 hy hk
    simp only [List.mem_cons, List.mem_singleton, List.not_mem_nil, or_false, false_or] at z0 z1 z2 z3
    rw [hs, hk]
    unfold asm_parts.f
    simp only [List.map_cons, List.map_nil, w0, w1, w2, w3]
  · exact fin _ (by
      unfold tellR
      simp only [z0 (by decide), z1 (by decide), z2 (by decide), (z3 (by decide)).1, (z3 (by decide)).2])
  · show partsUpto _ _ op 1 = _
    simp only [partsUpto]
    rw [if_pos ⟨by simp, by decide⟩]
    simp only [Option.bind_some]
    refine (pa _ rfl).trans (fin _ ?_)
    unfold tellR
    simp only [z1 (by decide), z2 (by decide), (z3 (by decide)).1, (z3 (by decide)).2]
  · show partsUpto _ _ op 1 = _
    simp only [partsUpto]
    rw [if_pos ⟨by simp, by decide⟩]
    simp only [Option.bind_some]
    refine (pi _ rfl rfl).trans (fin _ ?_)
    unfold tellR
    simp only [z0 (by decide), z1 (by decide), z2 (by decide)]
  · show partsUpto _ _ op 2 = _
    simp only [partsUpto]
    rw [if_pos ⟨by simp, by decide⟩, if_pos ⟨by simp, by decide⟩]
    simp only [Option.bind_some]
    refine (congrArg (fun o => Option.bind o _) (pa _ rfl)).trans ?_
    refine (pb _ rfl).trans (fin _ ?_)
    unfold tellR
    simp only [z2 (by decide), (z3 (by decide)).1, (z3 (by decide)).2]
  · show partsUpto _ _ op 2 = _
    simp only [partsUpto]
    rw [if_pos ⟨by simp, by decide⟩, if_pos ⟨by simp, by decide⟩]
    simp only [Option.bind_some]
    refine (congrArg (fun o => Option.bind o _) (pa _ rfl)).trans ?_
    refine (pi _ rfl rfl).trans (fin _ ?_)
    unfold tellR
    simp only [z1 (by decide), z2 (by decide)]
  · show partsUpto _ _ op 3 = _
    simp only [partsUpto]
    rw [if_pos ⟨by simp, by decide⟩, if_pos ⟨by simp, by decide⟩, if_pos ⟨by simp, by decide⟩]
    simp only [Option.bind_some]
    refine (congrArg (fun o => Option.bind (Option.bind o _) _) (pa _ rfl)).trans ?_
    refine (congrArg (fun o => Option.bind o _) (pb _ rfl)).trans ?_
    refine (pi _ rfl rfl).trans (fin _ ?_)
    unfold tellR
    simp only [z2 (by decide)]
  · show partsUpto _ _ op 3 = _
    simp only [partsUpto]
    rw [if_pos ⟨by simp, by decide⟩, if_pos ⟨by simp, by decide⟩, if_pos ⟨by simp, by decide⟩]
    simp only [Option.bind_some]
    refine (congrArg (fun o => Option.bind (Option.bind o _) _) (pa _ rfl)).trans ?_
    refine (congrArg (fun o => Option.bind o _) (pb _ rfl)).trans ?_
    refine (pc _ rfl).trans (fin _ ?_)
    unfold tellR
    simp only [(z3 (by decide)).1, (z3 (by decide)).2]
end Go.Proofs.YtbelnkdbghggmaaGreatDoor.X
namespace Go.Proofs.YtbelnkdbghggmaaGreatDoor.X
open Go.RowKit Go.Proofs.YtbelnkdbghggmaaGreatDoorW.PrintWords
set_option linter.unusedVariables false
set_option linter.unusedSimpArgs false
theorem fit_zero (n : Nat) (hn : n < 26) : fitB (n : Int) 0 0 0 0 = true := by
  have key : ∀ n : Fin 26, fitB (n.1 : Int) 0 0 0 0 = true := by decide +kernel
  exact key ⟨n, hn⟩
theorem zero_text (n : Nat) (hn : n < 26) : ∃ ws, (textP (n : Int) 0 0 0 0 (List.range 4)).data.toList = (nameN n).data.toList ++ joined ws ∧ ∀ w ∈ ws, (32 : UInt8) ∉ w := by
  refine ⟨_, textP_words (n : Int) 0 0 0 0 (List.range 4), ?_⟩
  intro w hw h
  unfold wordsOf at hw
  obtain ⟨k, _, rfl⟩ := List.mem_map.1 hw
  unfold wordOf at h
  split at h
  · exact (itoa_wch _ 32 h).1.2.1 rfl
  · rcases List.mem_cons.1 h with h | h
    · exact absurd h (by decide)
    · exact (itoa_wch _ 32 h).1.2.1 rfl
theorem name_blank (n : Nat) (hn : n < 26) : (32 : UInt8) ∉ (nameN n).data.toList := fun hc => (names_chars n hn 32 hc).1.2.1 rfl
theorem op_l (w : ByteArray) : ∀ (d i k : Nat), i + d = 26 → d + 2 ≤ k → (∀ m : Nat, m < i → ¬ (nameN m).data.toList = w.data.toList) → ∃ op, asm_operation.l0 k w (i : Int) = some op ∧ (-1 ≤ op ∧ op < 26) ∧ ∀ m : Nat, m < 26 → (nameN m).data.toList = w.data.toList → op = (m : Int)
  | 0, i, k, hi, hk, hm => by
    obtain ⟨k, rfl⟩ : ∃ m, k = m + 1 := ⟨k - 1, by omega⟩
    refine ⟨-1, ?_, by omega, fun m h1 h2 => absurd h2 (hm m (by omega))⟩
    simp only [asm_operation.l0]
    rw [if_neg (by omega)]
  | d + 1, i, k, hi, hk, hm => by
    obtain ⟨k, rfl⟩ : ∃ m, k = m + 1 := ⟨k - 1, by omega⟩
    have hn : i < 26 := by omega
    obtain ⟨ws, hws, hwb⟩ := zero_text i hn
    have hsz := txt_size (i : Int) 0 0 0 0 (by omega)
    have htv : txtV (i : Int) 0 0 0 0 = textP (i : Int) 0 0 0 0 (List.range 4) := if_pos (fit_zero i hn)
    have hcut : ∃ b f, strings_Cut.f (txtV (i : Int) 0 0 0 0) (⟨#[32]⟩ : ByteArray) = some (nameN i, b, f) := by
      unfold strings_Cut.f cutB
      rw [if_pos (by omega), htv, hws, show (⟨#[32]⟩ : ByteArray).data.toList = [32] from rfl]
      cases ws with
      | nil =>
        rw [joined, List.append_nil, cut_none 32 _ (name_blank i hn)]
        exact ⟨_, _, by rw [of_data]⟩
      | cons v r =>
        rw [joined, cut_at 32 _ _ (name_blank i hn)]
        exact ⟨_, _, by rw [of_data]⟩
    obtain ⟨b, f, hcut⟩ := hcut
    simp only [asm_operation.l0]
    unfold inst_TextE.f
    rw [if_pos (by omega), txt_val _ _ _ _ _ (by omega)]
    simp only [Option.bind_some]
    rw [hcut]
    simp only [Option.bind_some]
    rw [ByteArray.toList_eq, ByteArray.toList_eq, w64 _ (by omega) (by omega), show ((i : Int) + 1) = ((i + 1 : Nat) : Int) from by omega]
    by_cases he : (nameN i).data.toList = w.data.toList
    · rw [if_pos he]
      exact ⟨(i : Int), rfl, by omega, fun m h1 h2 => by rw [names_inj m i h1 hn (h2.trans he.symm)]⟩
    · rw [if_neg he]
      exact op_l w d (i + 1) k (by omega) (by omega) (fun m h1 => by
        rcases Nat.lt_or_ge m i with h2 | h2
        · exact hm m h2
        · rw [show m = i from by omega]; exact he)
theorem op_val (K : Nat) (hK : 30 ≤ K) (w : ByteArray) : ∃ op, asm_operation.f K w = some op ∧ (-1 ≤ op ∧ op < 26) ∧ ∀ m : Nat, m < 26 → (nameN m).data.toList = w.data.toList → op = (m : Int) :=
  op_l w 26 0 K (by omega) (by omega) (fun m h => by omega)
theorem map_toB : ∀ {l : List ByteArray} {m : List (List UInt8)}, l.map (·.data.toList) = m → l = m.map toB
  | [], [], _ => rfl
  | [], _ :: _, h => by cases h
  | _ :: _, [], h => by cases h
  | a :: l, b :: m, h => by
    simp only [List.map_cons, List.cons.injEq] at h
    rw [List.map_cons, ← map_toB h.2, ← h.1, toB, of_data]
theorem split_val (t : ByteArray) (hs : t.size ≤ 100000) : ∃ w r, strings_Split.f t ⟨#[32]⟩ = some (w :: r) ∧ (∀ v ∈ w :: r, v.size ≤ 100000) ∧ ∀ (a : List UInt8) (ws : List (List UInt8)), t.data.toList = a ++ joined ws → (32 : UInt8) ∉ a → (∀ v ∈ ws, (32 : UInt8) ∉ v) → w :: r = (a :: ws).map toB := by
  unfold strings_Split.f
  rw [if_pos ⟨by omega, by decide⟩]
  have hl : (splitF t ⟨#[32]⟩).length = Lib.countB t ⟨#[32]⟩ + 1 := Lib.splitB_all _ (by decide) 0 _ t rfl
  have hz : ∀ v ∈ splitF t ⟨#[32]⟩, v.size ≤ 100000 := fun v hv => Nat.le_trans (splitB_size _ _ t v hv) hs
  have hd : ∀ (a : List UInt8) (ws : List (List UInt8)), t.data.toList = a ++ joined ws → (32 : UInt8) ∉ a → (∀ v ∈ ws, (32 : UInt8) ∉ v) → splitF t ⟨#[32]⟩ = (a :: ws).map toB := by
    intro a ws ht ha hw
    apply map_toB
    have h1 := Lib.splitB_data (⟨#[32]⟩ : ByteArray) 0 (Lib.countB t ⟨#[32]⟩) t
    have h2 := split_joined ws a ha hw
    unfold splitF
    rw [h1, ht, show (⟨#[32]⟩ : ByteArray).data.toList = [32] from rfl, ← h2]
    show Lib.splitK [32] 0 (Lib.count t.data.toList [32]) (a ++ joined ws) = _
    rw [ht]
  cases hsp : splitF t ⟨#[32]⟩ with
  | nil => rw [hsp] at hl; simp at hl
  | cons w r =>
    rw [hsp] at hz hd
    exact ⟨w, r, rfl, hz, hd⟩
theorem shape_small (op : Int) : (shapeOf op).size ≤ 3 ∧ ∀ i, i < (shapeOf op).size → ((shapeOf op).data.getD i 0).toNat < 128 := by
  by_cases h : 0 ≤ op ∧ op < 26
  · rcases kinds op h with ⟨hs, _⟩ | ⟨hs, _⟩ | ⟨hs, _⟩ | ⟨hs, _⟩ | ⟨hs, _⟩ | ⟨hs, _⟩ | ⟨hs, _⟩ <;> rw [hs]
    · exact ⟨by decide, fun i hi => absurd hi (Nat.not_lt_zero i)⟩
    · refine ⟨by decide, fun i hi => ?_⟩
      have hi : i < 1 := hi
      have : i = 0 := by omega
      subst this; decide
    · refine ⟨by decide, fun i hi => ?_⟩
      have hi : i < 1 := hi
      have : i = 0 := by omega
      subst this; decide
    · refine ⟨by decide, fun i hi => ?_⟩
      have hi : i < 2 := hi
      have : i = 0 ∨ i = 1 := by omega
      rcases this with rfl | rfl <;> decide
    · refine ⟨by decide, fun i hi => ?_⟩
      have hi : i < 2 := hi
      have : i = 0 ∨ i = 1 := by omega
      rcases this with rfl | rfl <;> decide
    · refine ⟨by decide, fun i hi => ?_⟩
      have hi : i < 3 := hi
      have : i = 0 ∨ i = 1 ∨ i = 2 := by omega
      rcases this with rfl | rfl | rfl <;> decide
    · refine ⟨by decide, fun i hi => ?_⟩
      have hi : i < 3 := hi
      have : i = 0 ∨ i = 1 ∨ i = 2 := by omega
      rcases this with rfl | rfl | rfl <;> decide
  · have hs : shapeOf op = ByteArray.empty := by unfold shapeOf; rw [if_neg h]
    rw [hs]
    exact ⟨by decide, fun i hi => absurd hi (Nat.not_lt_zero i)⟩
theorem words_len (x : S40) (h0 : x.f0.toList = []) (h : goodB x = true) : (lineWords x).length = (shapeOf x.f1.f0).size := by
  rw [lineWords_eq, List.length_map]
  rcases kinds x.f1.f0 (good_regs h0 h).1 with ⟨hs, hk⟩ | ⟨hs, hk⟩ | ⟨hs, hk⟩ | ⟨hs, hk⟩ | ⟨hs, hk⟩ | ⟨hs, hk⟩ | ⟨hs, hk⟩ <;> (rw [hs, hk]; rfl)
/-- What the parts come to. -/
def endA (t : ByteArray) (s : RS) : Option RS := (if s.2.2.2.2.2.2.2 = true then ((asm_good.f s.1 s.2.1 s.2.2.1 s.2.2.2.1 s.2.2.2.2.1 s.2.2.2.2.2.1 s.2.2.2.2.2.2.1).bind fun t183 => (if t183 = true then ((asm_text.f s.1 s.2.1 s.2.2.1 s.2.2.2.1 s.2.2.2.2.1 s.2.2.2.2.2.1 s.2.2.2.2.2.2.1).bind fun t184 => (some (s.1, s.2.1, s.2.2.1, s.2.2.2.1, s.2.2.2.2.1, s.2.2.2.2.2.1, s.2.2.2.2.2.2.1, (t184.toList == t.toList)))) else (some (s.1, s.2.1, s.2.2.1, s.2.2.2.1, s.2.2.2.2.1, s.2.2.2.2.2.1, s.2.2.2.2.2.2.1, false)))) else (some (s.1, s.2.1, s.2.2.1, s.2.2.2.1, s.2.2.2.2.1, s.2.2.2.2.2.1, s.2.2.2.2.2.2.1, false)))
theorem endA_val (t : ByteArray) (s : RS) (hs : StA s) : endA t s = some (tellR (lineOf s) (okOf s && (goodB (lineOf s) && (lineT (lineOf s) == t.data.toList)))) := by
  have hw : wfX (lineOf s) := ⟨hs.2.1, by rw [hs.1]; decide, by have := hs.2.2; omega⟩
  unfold endA
  cases hok : okOf s with
  | false =>
    have hok2 : s.2.2.2.2.2.2.2 = false := hok
    rw [hok2, if_neg (by decide)]
    rfl
  | true =>
    have hok2 : s.2.2.2.2.2.2.2 = true := hok
    rw [hok2, if_pos rfl]
    have hg := good_val (lineOf s) hw
    refine (congrArg (fun o => Option.bind o _) hg).trans ?_
    simp only [Option.bind_some]
    cases hgb : goodB (lineOf s) with
    | false => rw [if_neg (by decide)]; rfl
    | true =>
      rw [if_pos rfl]
      refine (congrArg (fun o => Option.bind o _) (txt_good hw hgb)).trans ?_
      simp only [Option.bind_some]
      rw [ByteArray.toList_eq, ByteArray.toList_eq]
      rfl
theorem asm_read_post (K : Nat) (hK : 40 ≤ K) (t : ByteArray) (hs : t.size ≤ 100000) : ∃ r, asm_read.f K t = some r ∧ Post t r := by
  unfold asm_read.f strings_CutSuffix.f
  rw [if_pos (by omega)]
  simp only [Option.bind_some]
  by_cases hsuf : Lib.hasSuffix t.data.toList (⟨#[58]⟩ : ByteArray).data.toList = true
  · rw [if_pos hsuf]
    have h58 : [58] <:+ t.data.toList := by
      unfold Lib.hasSuffix at hsuf
      exact List.isSuffixOf_iff_suffix.1 hsuf
    obtain ⟨m, hm⟩ := h58
    have htr : (⟨(Lib.trimSuffix t.data.toList (⟨#[58]⟩ : ByteArray).data.toList).toArray⟩ : ByteArray) = toB m := by
      rw [← hm, show (⟨#[58]⟩ : ByteArray).data.toList = [58] from rfl, trim_app]
      rfl
    have hms : (toB m).size ≤ 100000 := by
      rw [size_data, ← hm, List.length_append] at hs
      rw [size_data, toB_data]
      omega
    rw [htr]
    unfold asm_named.f
    rw [if_pos (by omega)]
    simp only [Option.bind_some]
    exact ⟨_, rfl, mark_post t (toB m) (by rw [toB_data, hm]) hs⟩
  · rw [if_neg hsuf]
    have no58 : ∀ x : S40, lineT x = t.data.toList → x.f0.toList = [] := fun x hl => Classical.byContradiction fun h0 => hsuf (by
      rw [← hl, line_mark h0]
      unfold Lib.hasSuffix
      rw [List.isSuffixOf_iff_suffix]
      exact List.suffix_append _ _)
    obtain ⟨w, r, h1, h2, h3⟩ := split_val t hs
    rw [h1]
    simp only [Option.bind_some]
    rw [if_pos (by rw [List.length_cons]; omega)]
    have hrd : rdOf ByteArray.empty (w :: r) 0 = w := rfl
    obtain ⟨op, h4, h5, h6⟩ := op_val K (by omega) w
    rw [hrd, h4]
    simp only [Option.bind_some]
    unfold inst_Shape.f
    simp only [Option.bind_some]
    obtain ⟨hsh, hsb⟩ := shape_small op
    have hcomp : ∀ x : S40, wfX x → goodB x = true → lineT x = t.data.toList → op = x.f1.f0 ∧ (w :: r).length = (shapeOf op).size + 1 ∧ asm_parts.f (w :: r) (shapeOf op) op = some (tellR x true) := by
      intro x hw hg hl
      have h0 := no58 x hl
      obtain ⟨e1, e2, e3⟩ := line_words h0 hg
      have e4 := h3 _ _ (hl.symm.trans e1) e2 e3
      have hop := (good_regs h0 hg).1
      have hw0 : w.data.toList = (nameN x.f1.f0.toNat).data.toList := by
        rw [List.map_cons] at e4
        rw [(List.cons.inj e4).1, toB_data]
      have e5 := h6 x.f1.f0.toNat (by omega) hw0.symm
      have e6 : op = x.f1.f0 := by omega
      refine ⟨e6, ?_, ?_⟩
      · rw [e4, List.length_map, List.length_cons, words_len x h0 hg, e6]
      · rw [e4, e6]
        exact parts_of x hg hw h0
    obtain ⟨K, rfl⟩ : ∃ m, K = m + 1 := ⟨K - 1, by omega⟩
    have bad : ∃ r', (some ((⟨#[]⟩ : ByteArray), (0 : Int), (0 : Int), (0 : Int), (0 : Int), (0 : Int), (⟨#[]⟩ : ByteArray), false) : Option RS) = some r' ∧ Sound t r' := ⟨_, rfl, fun k => by cases k⟩
    by_cases hneg : op < 0
    · rw [if_pos hneg]
      simp only [asm_read.j0, if_true]
      refine ⟨_, rfl, And.intro (fun k => by cases k) (fun x hw hg hl => ?_)⟩
      have := (hcomp x hw hg hl).1
      have h0 := (good_regs (no58 x hl) hg).1
      omega
    · rw [if_neg hneg]
      rw [w64 _ (by omega) (by omega)]
      by_cases hlen : (w :: r).length = (shapeOf op).size + 1
      · have hb : (((w :: r).length : Int) != ((shapeOf op).size : Int) + 1) = false := by
          rw [bne_eq_false_iff_eq, hlen]
          omega
        rw [hb]
        simp only [asm_read.j0]
        rw [if_neg (by decide)]
        obtain ⟨s, h7, h8⟩ := parts_total (w :: r) (shapeOf op) op hlen h2 hsb _ (Nat.le_refl _)
        have h9 : asm_parts.f (w :: r) (shapeOf op) op = some s := h7
        rw [h9]
        simp only [Option.bind_some]
        have hend := endA_val t s h8
        refine ⟨_, hend, And.intro ?_ ?_⟩
        · intro hok
          have hb : (okOf s && (goodB (lineOf s) && (lineT (lineOf s) == t.data.toList))) = true := hok
          rw [Bool.and_eq_true, Bool.and_eq_true, beq_iff_eq] at hb
          exact ⟨⟨h8.2.1, by rw [lineOf_tell, h8.1]; decide, by have := h8.2.2; rw [lineOf_tell]; omega⟩, hb.2.1, hb.2.2⟩
        · intro x hw hg hl
          have := (hcomp x hw hg hl).2.2
          rw [h9] at this
          rw [Option.some.inj this]
          show tellR x (true && (goodB x && (lineT x == t.data.toList))) = _
          rw [hg, hl]
          simp
      · have hb : (((w :: r).length : Int) != ((shapeOf op).size : Int) + 1) = true := by
          rw [bne_iff_ne]
          omega
        rw [hb]
        simp only [asm_read.j0, if_true]
        exact ⟨_, rfl, And.intro (fun k => by cases k) (fun x hw hg hl => absurd (hcomp x hw hg hl).2.1 hlen)⟩
end Go.Proofs.YtbelnkdbghggmaaGreatDoor.X
