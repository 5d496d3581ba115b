/- Contract of asm.named: whether a text is a mark's name. -/
import Derived.Test.YtbelnkdbghggmaaDoorXx0
import Derived.Lib.Hide
namespace Go.Proofs.YtbelnkdbghggmaaDoor.X
open Go.RowKit Go.Proofs.YtbelnkdbghggmaaDoorW.PrintWords Go.Proofs.YtbelnkdbghggmaaDoorW.PrintLast
set_option linter.unusedVariables false
set_option linter.unusedSimpArgs false
/-- A byte that can't stand in a name at place k. -/
def badN (k : Nat) (c : Int) : Bool :=
  ((!(decide (48 ≤ c) && decide (c ≤ 57))) && (!(decide (97 ≤ Go.bits .or .u8 c 32) && decide (Go.bits .or .u8 c 32 ≤ 122))) && (c != 95)) || (((k : Int) == 0) && (decide (48 ≤ c) && decide (c ≤ 57)))
def namesTo (s : ByteArray) (k : Nat) : Bool := (List.range k).all fun j => !badN j (bt s (j : Int))
def namedB (s : ByteArray) : Bool := namesTo s s.size && (decide (0 < s.size) && decide (s.size ≤ 16))
theorem namesTo_succ (s : ByteArray) (k : Nat) : namesTo s (k + 1) = (namesTo s k && !badN k (bt s (k : Int))) := by
  unfold namesTo
  rw [List.range_succ, List.all_append]
  simp
theorem namesTo_bad {s : ByteArray} {k n : Nat} (hk : k < n) (hb : badN k (bt s (k : Int)) = true) : namesTo s n = false := by
  unfold namesTo
  rw [List.all_eq_false]
  exact ⟨k, List.mem_range.2 hk, by rw [hb]; decide⟩
theorem byte_at (W : World) (s : ByteArray) (k : Nat) (hk : k < s.size) : (Lib.bytesWorld W 5 s).cell? ⟨W.heap.size, k, none⟩ = some (.int .u8 (bt s (k : Int))) := by
  rw [Lib.bytesWorld_cell W 5 s k hk]
  have hk' : k < s.data.toList.length := by rw [data_length]; exact hk
  simp [bt, hk, List.getD_eq_getElem?_getD, List.getElem?_eq_getElem hk']
  rfl
set_option maxRecDepth 100000 in
set_option maxHeartbeats 8000000 in
theorem named_any (s : ByteArray) (hs : s.size ≤ 9223372036854775807) (w : World) : Calls Tryd.prog 37 #[.string s] w fun e w' => e = .returned (.bool (namedB s)) ∧ Below w.heap.size w w' := by
  have kb := fun W => print_bytes (P := Tryd.prog) 9 50 5 Tryd.underlying9 Tryd.underlying50 Tryd.underlying5 s W
  have hcell := byte_at w s
  have hbel := bytes_below (Below.refl w.heap.size w) (Nat.le_refl _) 5 s
  generalize hW1 : Lib.bytesWorld w 5 s = W1 at hcell hbel
  have HC := Lib.hid hcell
  have HB := Lib.hid hbel
  have HW1 := Lib.hid hW1
  clear hcell hbel hW1
  go_enter Tryd.func37, Tryd.ntmps37
  go_wp2
  rw [HW1.out]
  go_loop [10] (fun i => ∃ k : Nat, k ≤ s.size ∧ i = .int .i64 k ∧ namesTo s k = true) (fun i => s.size - (intOf i).toNat)
  case atStart => exact ⟨0, Nat.zero_le _, rfl, rfl⟩
  case round =>
    obtain ⟨k, hk, rfl, hn⟩ := hrel
    by_cases hlt : k < s.size
    · have hc := HC.out k hlt
      have hns := namesTo_succ s k
      have hnb := fun hb => namesTo_bad (s := s) (k := k) (n := s.size) hlt hb
      have hbd : badN k (bt s (k : Int)) = (((!(decide (48 ≤ bt s (k : Int)) && decide (bt s (k : Int) ≤ 57))) && (!(decide (97 ≤ Go.bits .or .u8 (bt s (k : Int)) 32) && decide (Go.bits .or .u8 (bt s (k : Int)) 32 ≤ 122))) && (bt s (k : Int) != 95)) || (((k : Int) == 0) && (decide (48 ≤ bt s (k : Int)) && decide (bt s (k : Int) ≤ 57)))) := rfl
      rw [hn, Bool.true_and] at hns
      generalize bt s (k : Int) = c at *
      generalize ho : Go.bits .or .u8 c 32 = o at *
      clear HC kb
      have HNS := Lib.hid hns
      have HNB := Lib.hid hnb
      have HBD := Lib.hid hbd
      have HN := Lib.hid hn
      clear hns hnb hbd hn
      by_cases h0 : 48 ≤ c <;> by_cases h1 : c ≤ 57 <;> (rcases h4 : (c != 95) with _ | _) <;> by_cases h2 : 97 ≤ o <;> by_cases h3 : o ≤ 122 <;> (rcases h5 : ((k : Int) == 0) with _ | _)
      all_goals first | (exfalso; omega) | (exfalso; (have h4' : c = 95 := by simpa using h4); omega) | skip
      all_goals
        have hbv : badN k c = _ := HBD.out
        simp only [h0, h1, h2, h3, h4, h5, decide_true, decide_false, Bool.and_true, Bool.and_false, Bool.true_and, Bool.false_and, Bool.not_true, Bool.not_false, Bool.or_false, Bool.or_true, Bool.false_or, Bool.true_or] at hbv
        have HBV := Lib.hid hbv
        clear hbv
        go_wp2
        first
        | (go_round
           case rel => exact ⟨k + 1, by omega, by go_num, by rw [HNS.out, HBV.out]; rfl⟩
           case measure => simp [intOf]; omega)
        | (go_ret
           exact ⟨by unfold namedB; rw [HNB.out (by rw [HBV.out]; first | done | rfl)]; first | done | rfl, HB.out⟩)
    · obtain rfl : k = s.size := by omega
      have hl : s.toList.length = s.size := by rw [ByteArray.toList_eq]; exact data_length s
      have HN := Lib.hid hn
      clear hn HC kb
      by_cases h6 : s.toList = []
      · have h7 : s.toList.isEmpty = true := by rw [h6]; rfl
        have h0 : s.size = 0 := by rw [h6] at hl; simpa using hl.symm
        have H0 := Lib.hid h0
        clear h0 hl
        go_wp2
        go_ret
        exact ⟨by unfold namedB; rw [HN.out, H0.out]; rfl, HB.out⟩
      · have h7 : s.toList.isEmpty = false := by cases e : s.toList with | nil => exact absurd e h6 | cons a b => rfl
        have h0 : 0 < s.size := by
          rcases Nat.eq_zero_or_pos s.size with e | e
          · rw [e] at hl; exact absurd (List.length_eq_zero_iff.1 hl) h6
          · exact e
        clear hl
        by_cases h8 : s.size ≤ 16
        all_goals
          go_wp2
          go_ret
          exact ⟨by unfold namedB; rw [HN.out]; simp [h0, h8]; omega, HB.out⟩
end Go.Proofs.YtbelnkdbghggmaaDoor.X
