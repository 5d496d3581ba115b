/- Plain laws: the reference's digits and texts are the program's. -/
import Derived.Test.YtnebgpegkihgdaaDoorPuB
namespace Go.Proofs.YtnebgpegkihgdaaDoor.X
open Go.RowKit Go.Proofs.YtnebgpegkihgdaaDoorW.PrintWords
set_option linter.unusedVariables false
set_option linter.unusedSimpArgs false
def dgB (u : Nat) : ByteArray := ⟨(Lib.decDigits u).toArray⟩
theorem dgB_size (u : Nat) : (dgB u).size = Lib.nDigits u := by
  unfold dgB
  rw [show (⟨(Lib.decDigits u).toArray⟩ : ByteArray).size = (Lib.decDigits u).length from by simp [ByteArray.size], Lib.decDigits_length]
theorem ba_ext {a b : ByteArray} (h : a.data.toList = b.data.toList) : a = b := by
  cases a; cases b; congr; exact Array.toList_inj.1 h
theorem app_data (a b : ByteArray) : (a ++ b).data.toList = a.data.toList ++ b.data.toList := by simp [ByteArray.data_append]
theorem one_char (n : Nat) (h : n < 208) : strOfNums [(IntKind.u64.wrap (48 + (n : Int))) % 256] = ⟨#[UInt8.ofNat (48 + n)]⟩ := by
  have e : (IntKind.u64.wrap (48 + (n : Int))) % 256 = ((48 + n : Nat) : Int) := by rw [IntKind.wrap_u64]; omega
  rw [e]
  rfl
theorem rDigits_l (u : Nat) : ∀ (k : Nat) (s d : ByteArray), u < 18446744073709551616 → Lib.nDigits u ≤ k → s.size + Lib.nDigits u + d.size ≤ 9223372036854775807 → curtilageref08_Digits.l0 k s (u : Int) d = some (s ++ (dgB u ++ d)) := by
  induction u using Nat.strongRecOn with
  | _ u ih =>
    intro k s d hu hk hs
    have hp := Lib.nDigits_pos u
    obtain ⟨k, rfl⟩ : ∃ m, k = m + 1 := ⟨k - 1, by omega⟩
    simp only [curtilageref08_Digits.l0]
    by_cases h : (u : Int) ≥ 10
    · have hn : Lib.nDigits u = Lib.nDigits (u / 10) + 1 := Lib.nDigits_big (by omega)
      have hm : (u : Int).tmod 10 = ((u % 10 : Nat) : Int) := rfl
      have hd : IntKind.u64.wrap ((u : Int).tdiv 10) = ((u / 10 : Nat) : Int) := by
        rw [show (u : Int).tdiv 10 = ((u / 10 : Nat) : Int) from rfl, IntKind.wrap_u64]
        omega
      rw [if_pos h, hm, hd]
      simp only [Option.bind_some]
      rw [one_char (u % 10) (by omega)]
      have hz : (⟨#[UInt8.ofNat (48 + u % 10)]⟩ : ByteArray).size = 1 := rfl
      rw [if_pos (by rw [hz]; omega), ih (u / 10) (by omega) k s _ (by omega) (by omega) (by rw [ByteArray.size_append, hz]; omega)]
      have hdec : dgB u = dgB (u / 10) ++ ⟨#[UInt8.ofNat (48 + u % 10)]⟩ := by
        apply ba_ext
        rw [app_data]
        show Lib.decDigits u = Lib.decDigits (u / 10) ++ [UInt8.ofNat (48 + u % 10)]
        rw [Lib.decDigits, dif_neg (by omega)]
      rw [hdec]
      refine congrArg some (ba_ext ?_)
      simp only [app_data, List.append_assoc]
    · have hn : Lib.nDigits u = 1 := Lib.nDigits_small (by omega)
      rw [if_neg h]
      simp only [Option.bind_some]
      rw [one_char u (by omega)]
      have hz : (⟨#[UInt8.ofNat (48 + u)]⟩ : ByteArray).size = 1 := rfl
      rw [if_pos (by rw [hz]; omega), if_pos (by rw [ByteArray.size_append, hz]; omega)]
      have hdec : dgB u = ⟨#[UInt8.ofNat (48 + u)]⟩ := by
        apply ba_ext
        show Lib.decDigits u = [UInt8.ofNat (48 + u)]
        rw [Lib.decDigits, dif_pos (by omega)]
      rw [hdec]
      refine congrArg some (ba_ext ?_)
      simp only [app_data, List.append_assoc]
theorem rDigits (K : Nat) (hK : 30 ≤ K) (n : Int) (h0 : -9223372036854775808 ≤ n) (h1 : n ≤ 9223372036854775807) : curtilageref08_Digits.f K n = some (itoaB n) := by
  obtain ⟨K, rfl⟩ : ∃ m, K = m + 1 := ⟨K - 1, by omega⟩
  have e20 : ∀ u : Nat, u < 18446744073709551616 → Lib.nDigits u ≤ 20 := Lib.nDigits_le20
  unfold curtilageref08_Digits.f
  by_cases h : n < 0
  · obtain ⟨u, rfl⟩ : ∃ u : Nat, n = -(u : Int) := ⟨n.natAbs, by omega⟩
    have hw : IntKind.u64.wrap (-(IntKind.u64.wrap (-(u : Int)))) = (u : Int) := by rw [IntKind.wrap_u64, IntKind.wrap_u64]; omega
    have h20 := e20 u (by omega)
    rw [if_pos h, hw]
    simp only [curtilageref08_Digits.j0]
    rw [rDigits_l u K _ _ (by omega) (by omega) (by rw [show (⟨#[45]⟩ : ByteArray).size = 1 from rfl, show (⟨#[]⟩ : ByteArray).size = 0 from rfl]; omega)]
    refine congrArg some (ba_ext ?_)
    rw [app_data, app_data]
    unfold itoaB
    rw [Lib.itoa_neg u (by omega)]
    simp [dgB]
  · obtain ⟨u, rfl⟩ : ∃ u : Nat, n = (u : Int) := ⟨n.toNat, by omega⟩
    have hw : IntKind.u64.wrap (u : Int) = (u : Int) := by rw [IntKind.wrap_u64]; omega
    have h20 := e20 u (by omega)
    rw [if_neg h, hw]
    simp only [curtilageref08_Digits.j0]
    rw [rDigits_l u K _ _ (by omega) (by omega) (by rw [show (⟨#[]⟩ : ByteArray).size = 0 from rfl]; omega)]
    refine congrArg some (ba_ext ?_)
    rw [app_data, app_data]
    unfold itoaB
    rw [Lib.itoa_nonneg u]
    simp [dgB]
theorem rName (n : Nat) (hn : n < 26) : curtilageref08_name.f (n : Int) = some (nameN n) := by
  have key : ∀ n : Fin 26, curtilageref08_name.f (n.1 : Int) = some (nameN n.1) := by decide +kernel
  exact key ⟨n, hn⟩
theorem part_j {α : Type} (K : Nat) (hK : 30 ≤ K) (n : Nat) (hn : n < 26) (k : Nat) (hk : k < 4) (x : Int) (hx : -2147483648 ≤ x ∧ x ≤ 2147483647) (ld : ByteArray) (z : Nat) (hz : ld.size = z) (hz2 : z ≤ 2) (s : ByteArray) (hs : s.size ≤ 200) (g : ByteArray → Option α) :
    ((curtilageref08_uses.f K (n : Int) (letter k)).bind fun t => (if t = true then (if s.size + z ≤ 9223372036854775807 then ((curtilageref08_Digits.f K x).bind fun d => (if (s ++ ld).size + d.size ≤ 9223372036854775807 then g ((s ++ ld) ++ d) else none)) else none) else g s)) = g (if uses n k = true then s ++ (ld ++ itoaB x) else s) := by
  rw [rUses K (by omega) n hn k hk]
  simp only [Option.bind_some]
  by_cases h : uses n k = true
  · have sx := itoaB_size x (by omega) (by omega)
    rw [if_pos h, if_pos h, if_pos (by omega), rDigits K hK x (by omega) (by omega)]
    simp only [Option.bind_some]
    rw [if_pos (by rw [ByteArray.size_append]; omega)]
    congr 1
    apply ba_ext
    simp only [app_data, List.append_assoc]
  · rw [if_neg h, if_neg h]
theorem tsize (n a b c e : Int) (k : Nat) (h : -2147483648 ≤ num a b c e k ∧ num a b c e k ≤ 2147483647) (s : ByteArray) (m : Nat) (hs : s.size ≤ m) : (tstep n a b c e s k).size ≤ m + 23 := by
  have hz := itoaB_size (num a b c e k) (by omega) (by omega)
  unfold tstep
  split
  · split
    · rw [ByteArray.size_append, ByteArray.size_append, show (⟨#[32]⟩ : ByteArray).size = 1 from rfl]; omega
    · rw [ByteArray.size_append, ByteArray.size_append, show (⟨#[32, 114]⟩ : ByteArray).size = 2 from rfl]; omega
  · omega
theorem rText (K : Nat) (hK : 40 ≤ K) (op a b c e : Int) (he : -2147483648 ≤ e ∧ e ≤ 2147483647) : curtilageref08_Text.f K op a b c e = some (if fitB op a b c e = true then textP op a b c e (List.range 4) else ByteArray.empty) := by
  unfold curtilageref08_Text.f
  rw [rFit K (by omega)]
  simp only [Option.bind_some]
  by_cases h : fitB op a b c e = true
  · rw [if_pos h, if_pos h]
    obtain ⟨h0, h1, h2, h3, h4, h5, h6, h7⟩ := fitB_regs h
    obtain ⟨n, rfl⟩ : ∃ n : Nat, op = (n : Int) := ⟨op.toNat, by omega⟩
    have hn : n < 26 := by omega
    have hnm := name_size n
    have hw : wrap64 e = e := by unfold wrap64; omega
    rw [rName n hn]
    simp only [Option.bind_some]
    have htx : textP (n : Int) a b c e (List.range 4) = tstep n a b c e (tstep n a b c e (tstep n a b c e (tstep n a b c e (nameN n) 0) 1) 2) 3 := rfl
    rw [htx]
    obtain ⟨K, rfl⟩ : ∃ m, K = m + 3 := ⟨K - 3, by omega⟩
    have q0 := part_j (K + 3) (by omega) n hn 0 (by decide) a (by omega) ⟨#[32, 114]⟩ 2 rfl (by omega) (nameN n) (by omega) (fun s => curtilageref08_Text.j0 (K + 3) s (n : Int) a b c e)
    have e0 : tstep n a b c e (nameN n) 0 = if uses n 0 = true then nameN n ++ ((⟨#[32, 114]⟩ : ByteArray) ++ itoaB a) else nameN n := rfl
    have z0 := tsize n a b c e 0 (by show _ ≤ a ∧ a ≤ _; omega) (nameN n) 8 (by omega)
    rw [← e0] at q0
    refine q0.trans ?_
    generalize tstep n a b c e (nameN n) 0 = s0 at z0 ⊢
    simp only [curtilageref08_Text.j0]
    have q1 := part_j (K + 2) (by omega) n hn 1 (by decide) b (by omega) ⟨#[32, 114]⟩ 2 rfl (by omega) s0 (by omega) (fun s => curtilageref08_Text.j1 (K + 2) s (n : Int) a b c e)
    have e1 : tstep n a b c e s0 1 = if uses n 1 = true then s0 ++ ((⟨#[32, 114]⟩ : ByteArray) ++ itoaB b) else s0 := rfl
    have z1 := tsize n a b c e 1 (by show _ ≤ b ∧ b ≤ _; omega) s0 31 (by omega)
    rw [← e1] at q1
    refine q1.trans ?_
    generalize tstep n a b c e s0 1 = s1 at z1 ⊢
    simp only [curtilageref08_Text.j1]
    have q2 := part_j (K + 1) (by omega) n hn 2 (by decide) c (by omega) ⟨#[32, 114]⟩ 2 rfl (by omega) s1 (by omega) (fun s => curtilageref08_Text.j2 (K + 1) s (n : Int) a b c e)
    have e2 : tstep n a b c e s1 2 = if uses n 2 = true then s1 ++ ((⟨#[32, 114]⟩ : ByteArray) ++ itoaB c) else s1 := rfl
    have z2 := tsize n a b c e 2 (by show _ ≤ c ∧ c ≤ _; omega) s1 54 (by omega)
    rw [← e2] at q2
    refine q2.trans ?_
    generalize tstep n a b c e s1 2 = s2 at z2 ⊢
    simp only [curtilageref08_Text.j2]
    rw [hw]
    have q3 := part_j K (by omega) n hn 3 (by decide) e (by omega) ⟨#[32]⟩ 1 rfl (by omega) s2 (by omega) (fun s => some s)
    have e3 : tstep n a b c e s2 3 = if uses n 3 = true then s2 ++ ((⟨#[32]⟩ : ByteArray) ++ itoaB e) else s2 := rfl
    rw [← e3] at q3
    exact q3
  · rw [if_neg h, if_neg h]
    rfl
end Go.Proofs.YtnebgpegkihgdaaDoor.X
