/- Contract of intern's keeper: free: the first place that nobody asks for. -/
import Derived.Test.YtfoagjdcgipcaaaJv
namespace Go.Proofs.Ytfoagjdcgipcaaa.X
open Go.RowKit Go.Shelf Go.Proofs.YtfoagjdcgipcaaaW.PrintWords Go.Proofs.YtfoagjdcgipcaaaW.PrintLast
set_option linter.unusedVariables false
set_option linter.unusedSimpArgs false

/-- The first 0, or the end. -/
def freeFrom : List Int → Nat → Nat
  | [], k => k
  | c :: r, k => if c = 0 then k else freeFrom r (k + 1)
theorem freeFrom_le (l : List Int) (k : Nat) : k ≤ freeFrom l k ∧ freeFrom l k ≤ k + l.length := by
  induction l generalizing k with
  | nil => simp [freeFrom]
  | cons c r ih =>
    simp only [freeFrom]
    split
    · simp
    · have := ih (k + 1)
      simp
      omega
theorem index_eq (l : List Int) (hm : l.length ≤ 9223372036854775807) (d : Nat) : ∀ (k i : Nat), i ≤ l.length → l.length - i = d → d + 1 ≤ k → slices_Index_int_int.l0 k l 0 (l.length : Int) (i : Int) = some (if freeFrom (l.drop i) i < l.length then ((freeFrom (l.drop i) i : Nat) : Int) else -1) := by
  induction d with
  | zero =>
    intro k i h1 h2 hk
    obtain ⟨k, rfl⟩ : ∃ m, k = m + 1 := ⟨k - 1, by omega⟩
    obtain rfl : i = l.length := by omega
    rw [slices_Index_int_int.l0, if_neg (by omega), List.drop_length]
    simp [freeFrom]
  | succ d ih =>
    intro k i h1 h2 hk
    obtain ⟨k, rfl⟩ : ∃ m, k = m + 1 := ⟨k - 1, by omega⟩
    have hi : i < l.length := by omega
    have ra : rd l (i : Int) = l[i] := by simp [rd, List.getD_eq_getElem?_getD, hi]
    rw [slices_Index_int_int.l0, if_pos (by omega), if_pos (by omega), if_pos (by omega), wrap_nat i (by omega), ra, ih k (i + 1) (by omega) (by omega) (by omega), List.drop_eq_getElem_cons hi]
    by_cases h : l[i] = 0
    · rw [if_pos h.symm]
      simp only [freeFrom, if_pos h, if_pos hi]
    · rw [if_neg (fun e => h e.symm)]
      simp only [freeFrom, if_neg h]
theorem index_all (l : List Int) (hm : l.length ≤ 9223372036854775807) : slices_Index_int_int.f (l.length + 1) l 0 = some (if freeFrom l 0 < l.length then ((freeFrom l 0 : Nat) : Int) else -1) := by
  have := index_eq l hm l.length (l.length + 1) 0 (by omega) (by omega) (by omega)
  unfold slices_Index_int_int.f
  simpa using this
set_option maxRecDepth 100000 in
set_option maxHeartbeats 4000000 in
theorem free_any (g : Nat) (v0 : Value) (A1 : Option Addr) (c1 : Nat) (l1 : List Int) (w : World) (hb : w.heap[g]? = some (.cells #[v0, .slice A1 l1.length c1] 60 (0, 0))) (hr1 : Kd.C (Kd.int .i64) w A1 l1.length l1) (hc1 : l1.length ≤ c1) :
    Calls Try.prog 28 #[.pointer (some ⟨g, 0, none⟩)] w fun e w' => e = .returned (.int .i64 (freeFrom l1 0 : Nat)) ∧ Below w.heap.size w w' := by
  have hm : l1.length ≤ 9223372036854775807 := hr1.2.1
  have hle := (freeFrom_le l1 0).2
  have hcall := fun W (hw : Below w.heap.size w W) => (slices_Index_int_int.calls (l1.length + 1) A1 c1 l1 0 _ W (Kd.C_below hr1 hw) hc1 (index_all l1 hm))
  have hc0_ := blk_cell hb 0
  have hc1_ := blk_cell hb 1
  simp only [List.getElem?_toArray, List.getElem?_cons_zero, List.getElem?_cons_succ] at hc0_ hc1_
  by_cases h : freeFrom l1 0 < l1.length
  · rw [if_pos h] at hcall
    clear hr1 hb
    go_enter Try.func28, Try.ntmps28
    go_wp2_with (go_at_call 40; refine (hcall _ (Below.refl _ _)).mono ?_; rintro e w2 ⟨rfl, hd⟩; have hb2 := hd.below)
    go_ret
    exact ⟨rfl, hb2⟩
  · rw [if_neg h] at hcall
    have he : freeFrom l1 0 = l1.length := by omega
    rw [he]
    clear hr1
    go_enter Try.func28, Try.ntmps28
    go_wp2_with (go_at_call 40; refine (hcall _ (Below.refl _ _)).mono ?_; rintro e w2 ⟨rfl, hd⟩; have hb2 := hd.below; have hd1 := pw_cell_below hb2 hc1_)
    go_ret
    exact ⟨rfl, hb2⟩
end Go.Proofs.Ytfoagjdcgipcaaa.X
