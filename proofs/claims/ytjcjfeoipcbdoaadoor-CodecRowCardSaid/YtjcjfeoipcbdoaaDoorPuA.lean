/- Plain laws: numbers, signs and pairs as texts, the reference's and the program's. -/
import Derived.Test.YtjcjfeoipcbdoaaDoorXx3
import Derived.Test.YtjcjfeoipcbdoaaDoorXx4
namespace Go.Proofs.YtjcjfeoipcbdoaaDoor.X
open Go.RowKit Go.Proofs.YtjcjfeoipcbdoaaDoorW.PrintWords
set_option linter.unusedVariables false
set_option linter.unusedSimpArgs false
theorem u64_bd {n : Int} (h : (Lit.int .u64 n).wf = true) : 0 ≤ n ∧ n ≤ 18446744073709551615 := by
  simp only [Lit.wf, Bool.and_eq_true, decide_eq_true_eq] at h
  exact h
theorem i64_bd {n : Int} (h : (Lit.int .i64 n).wf = true) : -9223372036854775808 ≤ n ∧ n ≤ 9223372036854775807 := by
  simp only [Lit.wf, Bool.and_eq_true, decide_eq_true_eq] at h
  exact h
theorem dgB_size (u : Nat) : (dgB u).size = Lib.nDigits u := by
  unfold dgB
  rw [show (⟨(Lib.decDigits u).toArray⟩ : ByteArray).size = (Lib.decDigits u).length from by simp [ByteArray.size], Lib.decDigits_length]
theorem ba_ext {a b : ByteArray} (h : a.data.toList = b.data.toList) : a = b := by
  cases a; cases b; congr; exact Array.toList_inj.1 h
theorem app_data (a b : ByteArray) : (a ++ b).data.toList = a.data.toList ++ b.data.toList := by simp [ByteArray.data_append]
theorem size_data (a : ByteArray) : a.size = a.data.toList.length := rfl
theorem ext_data (s : ByteArray) (a b : Nat) : (s.extract a b).data.toList = (s.data.toList.drop a).take (b - a) := by
  rw [ByteArray.data_extract, Array.toList_extract, List.extract_eq_take_drop]
theorem bt_at (s : ByteArray) (i : Nat) (h : i < s.size) : bt s (i : Int) = ((s.data.toList[i]'h).toNat : Int) := by
  unfold bt
  rw [dif_pos (by simpa using h)]
  rfl
theorem one_char (n : Nat) (h : n < 208) : strOfNums [(IntKind.u64.wrap (48 + (n : Int))) % 256] = ⟨#[UInt8.ofNat (48 + n)]⟩ := by
  have e : (IntKind.u64.wrap (48 + (n : Int))) % 256 = ((48 + n : Nat) : Int) := by rw [IntKind.wrap_u64]; omega
  rw [e]
  rfl
theorem rDigits_l (u : Nat) : ∀ (k : Nat) (d : ByteArray), u < 18446744073709551616 → Lib.nDigits u ≤ k → Lib.nDigits u + d.size ≤ 9223372036854775807 → curtilageref04_Digits.l0 k (u : Int) d = some (dgB u ++ d) := by
  induction u using Nat.strongRecOn with
  | _ u ih =>
    intro k d hu hk hs
    have hp := Lib.nDigits_pos u
    obtain ⟨k, rfl⟩ : ∃ m, k = m + 1 := ⟨k - 1, by omega⟩
    simp only [curtilageref04_Digits.l0]
    by_cases h : (u : Int) ≥ 10
    · have hn : Lib.nDigits u = Lib.nDigits (u / 10) + 1 := Lib.nDigits_big (by omega)
      have hm : (u : Int).tmod 10 = ((u % 10 : Nat) : Int) := rfl
      have hd : IntKind.u64.wrap ((u : Int).tdiv 10) = ((u / 10 : Nat) : Int) := by
        rw [show (u : Int).tdiv 10 = ((u / 10 : Nat) : Int) from rfl, IntKind.wrap_u64]
        omega
      rw [if_pos h, hm, hd]
      simp only [Option.bind_some]
      rw [one_char (u % 10) (by omega)]
      have hz : (⟨#[UInt8.ofNat (48 + u % 10)]⟩ : ByteArray).size = 1 := rfl
      rw [if_pos (by rw [hz]; omega), ih (u / 10) (by omega) k _ (by omega) (by omega) (by rw [ByteArray.size_append, hz]; omega)]
      have hdec : dgB u = dgB (u / 10) ++ ⟨#[UInt8.ofNat (48 + u % 10)]⟩ := by
        apply ba_ext
        rw [app_data]
        show Lib.decDigits u = Lib.decDigits (u / 10) ++ [UInt8.ofNat (48 + u % 10)]
        rw [Lib.decDigits, dif_neg (by omega)]
      rw [hdec]
      refine congrArg some (ba_ext ?_)
      simp only [app_data, List.append_assoc]
    · have hn : Lib.nDigits u = 1 := Lib.nDigits_small (by omega)
      rw [if_neg h]
      simp only [Option.bind_some]
      rw [one_char u (by omega)]
      have hz : (⟨#[UInt8.ofNat (48 + u)]⟩ : ByteArray).size = 1 := rfl
      rw [if_pos (by rw [hz]; omega)]
      have hdec : dgB u = ⟨#[UInt8.ofNat (48 + u)]⟩ := by
        apply ba_ext
        show Lib.decDigits u = [UInt8.ofNat (48 + u)]
        rw [Lib.decDigits, dif_pos (by omega)]
      rw [hdec]
theorem rDigits (K : Nat) (hK : 30 ≤ K) (u : Nat) (hu : u < 18446744073709551616) : curtilageref04_Digits.f K (u : Int) = some (dgB u) := by
  have h20 := Lib.nDigits_le20 u hu
  unfold curtilageref04_Digits.f
  rw [rDigits_l u K _ hu (by omega) (by rw [show (⟨#[]⟩ : ByteArray).size = 0 from rfl]; omega)]
  refine congrArg some (ba_ext ?_)
  simp [app_data]
theorem r01Text (n : Nat) (hn : n < 6) : curtilageref01_Text.f (n : Int) = some (signB n) := by
  have key : ∀ n : Fin 6, curtilageref01_Text.f (n.1 : Int) = some (signB n.1) := by decide +kernel
  exact key ⟨n, hn⟩
theorem r01Read_l (s : ByteArray) : ∀ (d i k : Nat), i + d = 6 → d < k → (∀ j, j < i → ¬ (signB j).toList = s.toList) → curtilageref01_Read.l0 k s (i : Int) = some (levR s) := by
  intro d
  induction d with
  | zero =>
    intro i k hi hk hn
    obtain ⟨k, rfl⟩ : ∃ m, k = m + 1 := ⟨k - 1, by omega⟩
    simp only [curtilageref01_Read.l0]
    rw [if_neg (by omega), levR_none s (fun j hj => hn j (by omega))]
  | succ d ih =>
    intro i k hi hk hn
    obtain ⟨k, rfl⟩ : ∃ m, k = m + 1 := ⟨k - 1, by omega⟩
    simp only [curtilageref01_Read.l0]
    rw [if_pos (by omega), r01Text i (by omega)]
    rw [Option.bind_some]
    by_cases h : (signB i).toList = s.toList
    · rw [if_pos h, levR_at s i (by omega) h hn]
    · rw [if_neg h, show wrap64 ((i : Int) + 1) = ((i + 1 : Nat) : Int) by unfold wrap64; omega]
      refine ih (i + 1) k (by omega) (by omega) (fun j hj => ?_)
      by_cases hji : j = i
      · rw [hji]; exact h
      · exact hn j (by omega)
theorem r01Read (K : Nat) (hK : 8 ≤ K) (s : ByteArray) : curtilageref01_Read.f K s = some (levR s) :=
  r01Read_l s 6 0 K (by omega) (by omega) (fun j hj => by omega)
/-! numbers -/
theorem digit_at (u i : Nat) (hi : i < (dgB u).size) : ((dgB u).data.toList[i]'hi).toNat = 48 + u / 10 ^ (Lib.nDigits u - 1 - i) % 10 := by
  have h : (dgB u).data.toList = (List.range (Lib.nDigits u)).map fun t => Lib.dg u (Lib.nDigits u - 1 - t) := Lib.decDigits_eq u
  simp only [h, List.getElem_map, List.getElem_range]
  unfold Lib.dg
  have : u / 10 ^ (Lib.nDigits u - 1 - i) % 10 < 10 := Nat.mod_lt _ (by decide)
  rw [UInt8.toNat_ofNat']
  omega
theorem number_l (s : ByteArray) (hs : s.size < 9223372036854775807) : ∀ (d i k : Nat) (acc : Nat), i + d = 20 → 2 * d + 40 ≤ k → acc < 18446744073709551616 →
    ∃ v b, curtilageref04_number.l0 k s (acc : Int) (i : Int) = some (((v : Nat) : Int), b) ∧ v < 18446744073709551616 ∧ (b = true → dgB v = s) ∧ (∀ u, u < 18446744073709551616 → s = dgB u → i ≤ s.size → acc = u / 10 ^ (s.size - i) → v = u ∧ b = true) := by
  intro d
  induction d with
  | zero =>
    intro i k acc hi hk ha
    obtain rfl : i = 20 := by omega
    obtain ⟨k, rfl⟩ : ∃ m, k = m + 2 := ⟨k - 2, by omega⟩
    refine ⟨acc, ((dgB acc).toList == s.toList), ?_, ha, fun h => ?_, fun u hu hsu hle hacc => ?_⟩
    · have h0 : curtilageref04_number.l0 (k + 2) s (acc : Int) ((20 : Nat) : Int) = curtilageref04_number.j1 (k + 1) s (acc : Int) ((20 : Nat) : Int) false := by
        simp only [curtilageref04_number.l0]
        split <;> rfl
      rw [h0]
      simp only [curtilageref04_number.j1]
      rw [if_neg (by decide), rDigits k (by omega) acc ha, Option.bind_some]
    · rw [beq_iff_eq, ByteArray.toList_eq, ByteArray.toList_eq] at h
      exact ba_ext h
    · have h20 := Lib.nDigits_le20 u hu
      have hz : s.size = Lib.nDigits u := by rw [hsu, dgB_size]
      have : s.size - 20 = 0 := by omega
      rw [this, Nat.pow_zero, Nat.div_one] at hacc
      subst hacc
      rw [hsu]
      exact ⟨rfl, by simp⟩
  | succ d ih =>
    intro i k acc hi hk ha
    obtain ⟨k, rfl⟩ : ∃ m, k = m + 2 := ⟨k - 2, by omega⟩
    by_cases hlt : i < s.size
    · have h0 : curtilageref04_number.l0 (k + 2) s (acc : Int) (i : Int) = curtilageref04_number.j1 (k + 1) s (acc : Int) (i : Int) true := by
        simp only [curtilageref04_number.l0]
        rw [if_pos (by omega), decide_eq_true (by omega : (i : Int) < 20)]
      rw [h0]
      simp only [curtilageref04_number.j1]
      rw [if_pos (by decide), if_pos (by omega), if_pos (by omega), bt_at s i hlt]
      generalize hc : ((s.data.toList[i]'hlt).toNat : Int) = c
      by_cases h1 : c < 48
      · rw [if_pos h1]
        refine ⟨0, false, rfl, by decide, (fun h => by cases h), fun u hu hsu hle hacc => ?_⟩
        subst hsu
        rw [digit_at u i hlt] at hc
        omega
      · rw [if_neg h1]
        by_cases h2 : c > 57
        · rw [if_pos h2]
          refine ⟨0, false, rfl, by decide, (fun h => by cases h), fun u hu hsu hle hacc => ?_⟩
          subst hsu
          rw [digit_at u i hlt] at hc
          omega
        · rw [if_neg h2, show wrap64 ((i : Int) + 1) = ((i + 1 : Nat) : Int) by unfold wrap64; omega]
          obtain ⟨n, rfl⟩ : ∃ n : Nat, c = (n : Int) := ⟨c.toNat, by omega⟩
          have e : IntKind.u64.wrap (IntKind.u64.wrap ((acc : Int) * 10) + ((n : Int) - 48) % 256) = (((acc * 10 + (n - 48)) % 18446744073709551616 : Nat) : Int) := by
            rw [IntKind.wrap_u64, IntKind.wrap_u64]; omega
          rw [e]
          obtain ⟨v, b, hv, hv1, hv2, hv3⟩ := ih (i + 1) k ((acc * 10 + (n - 48)) % 18446744073709551616) (by omega) (by omega) (by omega)
          refine ⟨v, b, hv, hv1, hv2, fun u hu hsu hle hacc => hv3 u hu hsu (by omega) ?_⟩
          have hz : s.size = Lib.nDigits u := by rw [hsu, dgB_size]
          have hd : n = 48 + u / 10 ^ (s.size - (i + 1)) % 10 := by
            subst hsu
            rw [digit_at u i hlt] at hc
            rw [show (dgB u).size - (i + 1) = Lib.nDigits u - 1 - i by omega]
            omega
          have hp : s.size - i = (s.size - (i + 1)) + 1 := by omega
          rw [hp, Nat.pow_succ, ← Nat.div_div_eq_div_mul] at hacc
          have hq : u / 10 ^ (s.size - (i + 1)) ≤ u := Nat.div_le_self _ _
          generalize u / 10 ^ (s.size - (i + 1)) = q at *
          omega
    · refine ⟨acc, ((dgB acc).toList == s.toList), ?_, ha, fun h => ?_, fun u hu hsu hle hacc => ?_⟩
      · have h0 : curtilageref04_number.l0 (k + 2) s (acc : Int) (i : Int) = curtilageref04_number.j1 (k + 1) s (acc : Int) (i : Int) false := by
          simp only [curtilageref04_number.l0]
          rw [if_neg (by omega)]
        rw [h0]
        simp only [curtilageref04_number.j1]
        rw [if_neg (by decide), rDigits k (by omega) acc ha, Option.bind_some]
      · rw [beq_iff_eq, ByteArray.toList_eq, ByteArray.toList_eq] at h
        exact ba_ext h
      · have : s.size - i = 0 := by omega
        rw [this, Nat.pow_zero, Nat.div_one] at hacc
        subst hacc
        rw [hsu]
        exact ⟨rfl, by simp⟩
theorem rNumber (K : Nat) (hK : 90 ≤ K) (s : ByteArray) (hs : s.size < 9223372036854775807) :
    ∃ v b, curtilageref04_number.f K s = some (((v : Nat) : Int), b) ∧ (b = true → v < 18446744073709551616 ∧ dgB v = s) ∧ (∀ u, u < 18446744073709551616 → s = dgB u → v = u ∧ b = true) := by
  obtain ⟨v, b, h1, h2, h3, h4⟩ := number_l s hs 20 0 K 0 (by omega) (by omega) (by decide)
  refine ⟨v, b, h1, fun h => ⟨h2, h3 h⟩, fun u hu hsu => h4 u hu hsu (Nat.zero_le _) ?_⟩
  have hz : s.size = Lib.nDigits u := by rw [hsu, dgB_size]
  rw [Nat.sub_zero, hz, Nat.div_eq_of_lt (Lib.lt_pow_nDigits u)]
/-! the library's numbers -/
theorem parse10_snoc (c : UInt8) : ∀ (l : List UInt8) (acc u : Nat), Lib.parseUint10 acc l = .ok u → 48 ≤ c.toNat ∧ c.toNat ≤ 57 → u * 10 + (c.toNat - 48) < 18446744073709551616 → Lib.parseUint10 acc (l ++ [c]) = .ok (u * 10 + (c.toNat - 48))
  | [], acc, u, h, hc, hb => by
    simp only [Lib.parseUint10] at h
    cases h
    simp only [List.nil_append, Lib.parseUint10]
    rw [if_pos hc, if_neg (by omega), if_neg (by omega)]
  | x :: l, acc, u, h, hc, hb => by
    simp only [Lib.parseUint10] at h
    simp only [List.cons_append, Lib.parseUint10]
    split at h
    · rename_i hx
      rw [if_pos hx]
      split at h
      · cases h
      · rename_i h1
        rw [if_neg h1]
        split at h
        · cases h
        · rename_i h2
          rw [if_neg h2]
          exact parse10_snoc c l _ u h hc hb
    · cases h
theorem parse_digits (u : Nat) (hu : u < 18446744073709551616) : Lib.parseUint10 0 (Lib.decDigits u) = .ok u := by
  induction u using Nat.strongRecOn with
  | _ u ih =>
    by_cases h : u < 10
    · have e : (UInt8.ofNat (48 + u)).toNat = 48 + u := by rw [UInt8.toNat_ofNat']; omega
      rw [Lib.decDigits_one h]
      have := parse10_snoc (UInt8.ofNat (48 + u)) [] 0 0 rfl (by rw [e]; omega) (by rw [e]; omega)
      rw [e] at this
      simpa using this
    · have e : (UInt8.ofNat (48 + u % 10)).toNat = 48 + u % 10 := by rw [UInt8.toNat_ofNat']; omega
      rw [Lib.decDigits, dif_neg h]
      have := parse10_snoc (UInt8.ofNat (48 + u % 10)) _ 0 (u / 10) (ih (u / 10) (by omega) (by omega)) (by rw [e]; omega) (by rw [e]; omega)
      rw [this, e]
      congr 1
      omega
theorem numR_dgB (u : Nat) (hu : u < 18446744073709551616) : numR (dgB u).data.toList = (u, true) := by
  unfold numR
  rw [Lib.parseUintB_64]
  unfold Lib.parseMag
  have hne : ¬ (dgB u).data.toList = [] := by
    intro h
    have := congrArg List.length h
    rw [← size_data, dgB_size] at this
    have hp := Lib.nDigits_pos u
    simp at this
    omega
  rw [if_neg hne]
  rw [show (dgB u).data.toList = Lib.decDigits u from rfl, parse_digits u hu]
end Go.Proofs.YtjcjfeoipcbdoaaDoor.X
