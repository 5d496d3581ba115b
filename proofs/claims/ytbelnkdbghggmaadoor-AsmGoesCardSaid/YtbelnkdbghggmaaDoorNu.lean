/- Contract of (*program).number: the number of an instruction that goes to a mark. -/
import Derived.Test.YtbelnkdbghggmaaDoorMk
import Derived.Test.YtbelnkdbghggmaaDoorPl
import Derived.Deep.QuietTactic
import Derived.BigQuiet
namespace Go.Proofs.YtbelnkdbghggmaaDoor.X
open Go.RowKit Go.Proofs.YtbelnkdbghggmaaDoorW.PrintWords Go.Proofs.YtbelnkdbghggmaaDoorW.PrintLast
set_option linter.unusedVariables false
set_option linter.unusedSimpArgs false
abbrev Marks := List (ByteArray × Int)
def numN (marks : Marks) (i : Int) (x : S28) : Int := if x.f1.f0 = 1 then Mp.getL x.f2 0 marks + x.f1.f4 else Mp.getL x.f2 0 marks - i - 1
def numR (marks : Marks) (i : Int) (x : S28) : Int × Int :=
  if Mp.hasL x.f2 marks = true then (if numN marks i x < -2147483648 ∨ 2147483647 < numN marks i x then (0, 13) else (numN marks i x, 0)) else (0, 1)
theorem Is.drewN {W : World} {r : Nat} {m : Marks} (h : Mp.Is Mp.encS Mp.encN W r m) (k : Nat) : Mp.Is Mp.encS Mp.encN (W.drewN k) r m := h.step rfl
set_option maxRecDepth 100000 in
set_option maxHeartbeats 8000000 in
theorem number_any (Bp M : Nat) (lv ov : Value) (marks : Marks) (i : Int) (x : S28) (w : World)
    (hp : w.heap[Bp]? = some (.cells #[lv, .map (some M), ov] 46 (0, 0))) (hM : Mp.Is Mp.encS Mp.encN w M marks)
    (hi : 0 ≤ i ∧ i ≤ 1099511627776) (ht : 0 ≤ Mp.getL x.f2 0 marks ∧ Mp.getL x.f2 0 marks ≤ 1099511627776) (he : -2147483648 ≤ x.f1.f4 ∧ x.f1.f4 ≤ 2147483647) :
    Calls Tryd.prog 24 #[.pointer (some ⟨Bp, 0, none⟩), .int .i64 i, .agg (lineC x)] w fun e w' => e = .returned (.tuple #[.int .i32 (numR marks i x).1, .int .i64 (numR marks i x).2]) ∧ Below w.heap.size w w' := by
  have hp1 := blk_alloc hp (.cells (lineC x) 28)
  have hM1 : Mp.Is Mp.encS Mp.encN (w.alloc (.cells (lineC x) 28)) M marks := hM.below ((Below.refl _ w).alloc (Nat.le_refl _) _)
  have hlk := fun k => Mp.lookup_ok_run Tryd.underlying44 Mp.key9 (encE := Mp.encN) Mp.zero3 (Is.drewN hM1 k) x.f2
  have hcm := blk_cell hp1 1
  have hnr : ∃ N, N = (if x.f1.f0 = 1 then Mp.getL x.f2 0 marks + x.f1.f4 else Mp.getL x.f2 0 marks - i - 1) ∧ numR marks i x = (if Mp.hasL x.f2 marks = true then (if N < -2147483648 ∨ 2147483647 < N then (0, 13) else (N, 0)) else (0, 1)) := ⟨_, rfl, rfl⟩
  obtain ⟨N, hN, hnr⟩ := hnr
  unfold Mp.encS Mp.encN at hlk
  simp only [List.getElem?_toArray, List.getElem?_cons_zero, List.getElem?_cons_succ] at hcm
  unfold lineC at *
  generalize Mp.getL x.f2 0 marks = tt at *
  generalize Mp.hasL x.f2 marks = has at *
  have HNR := Lib.hid hnr
  have HN := Lib.hid hN
  have hlk0 := hlk 0
  rw [World.drewN_zero] at hlk0
  clear hnr hN hp hp1 hM hM1
  obtain ⟨hi0, hi1⟩ := hi
  obtain ⟨ht0, ht1⟩ := ht
  obtain ⟨he0, he1⟩ := he
  go_enter Tryd.func24, Tryd.ntmps24
  go_wp2
  go_quiet (fail)
  have HB := Lib.hid (pw_below_drewN (below_alloc (Below.refl w.heap.size w) (.cells #[.string x.f0, .int .i64 x.f1.f0, .int .i64 x.f1.f1, .int .i64 x.f1.f2, .int .i64 x.f1.f3, .int .i32 x.f1.f4, .string x.f2] 28)) nq)
  clear hlk hlk0 hcm
  cases has with
  | false =>
    go_wp2
    go_ret2
    exact ⟨by rw [HNR.out]; rfl, HB.out⟩
  | true =>
    by_cases hop : x.f1.f0 = 1
    · have HN2 : Hid (N = tt + x.f1.f4) := Lib.hid (by rw [HN.out, if_pos hop])
      have hop2 : (x.f1.f0 == 1) = true := by rw [hop]; rfl
      clear HN hop
      by_cases h1 : tt + x.f1.f4 < -2147483648
      · exfalso; omega
      · by_cases h2 : 2147483647 < tt + x.f1.f4
        · have HR := Lib.hid (HNR.out.trans (by rw [HN2.out, if_pos (by simp), if_pos (.inr h2)]) : numR marks i x = (0, 13))
          go_wp2
          go_ret2
          exact ⟨by rw [HR.out]; rfl, HB.out⟩
        · have HR := Lib.hid (HNR.out.trans (by rw [HN2.out, if_pos (by simp), if_neg (by omega)]) : numR marks i x = (tt + x.f1.f4, 0))
          go_wp2
          go_ret2
          exact ⟨by rw [HR.out]; rfl, HB.out⟩
    · have HN2 : Hid (N = tt - i - 1) := Lib.hid (by rw [HN.out, if_neg hop])
      have hop2 : (x.f1.f0 == 1) = false := by simpa using hop
      clear HN hop
      by_cases h1 : tt - i - 1 < -2147483648
      · have HR := Lib.hid (HNR.out.trans (by rw [HN2.out, if_pos (by simp), if_pos (.inl h1)]) : numR marks i x = (0, 13))
        go_wp2
        go_ret2
        exact ⟨by rw [HR.out]; rfl, HB.out⟩
      · by_cases h2 : 2147483647 < tt - i - 1
        · have HR := Lib.hid (HNR.out.trans (by rw [HN2.out, if_pos (by simp), if_pos (.inr h2)]) : numR marks i x = (0, 13))
          go_wp2
          go_ret2
          exact ⟨by rw [HR.out]; rfl, HB.out⟩
        · have HR := Lib.hid (HNR.out.trans (by rw [HN2.out, if_pos (by simp), if_neg (by omega)]) : numR marks i x = (tt - i - 1, 0))
          go_wp2
          go_ret2
          exact ⟨by rw [HR.out]; rfl, HB.out⟩
end Go.Proofs.YtbelnkdbghggmaaDoor.X
