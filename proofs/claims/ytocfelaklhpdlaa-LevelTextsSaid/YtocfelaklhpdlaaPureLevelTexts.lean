/- The pure statement of LevelTexts: levels as signs and the levels of texts are the reference's, there and back; for any number that an int holds, any text up to the reach. -/
import Derived.Test.YtocfelaklhpdlaaPLevelTextsx1
namespace Go.Proofs.Ytocfelaklhpdlaa.Pure
open Go.RowKit Go.Proofs.Ytocfelaklhpdlaa.PLevelTexts Go.Proofs.YtocfelaklhpdlaaW.PrintWords Go.Proofs.YtocfelaklhpdlaaW.PrintLast Go.Proofs.YtocfelaklhpdlaaW.PrintMore

/-- a number as a level -/
def lv (a : Int) : Int := if 0 ≤ a ∧ a ≤ 5 then a else 2
theorem lv_bd (a : Int) : 0 ≤ lv a ∧ lv a ≤ 5 := by unfold lv; split <;> omega
theorem fit_eq (a : Int) : level_Fit.f a = some (decide (0 ≤ a ∧ a ≤ 5)) := by
  unfold level_Fit.f; by_cases h : a ≥ 0
  · rw [if_pos h]; congr 1; simp; omega
  · rw [if_neg h]; congr 1; simp; omega
theorem of_eq (a : Int) : level_of.f a = some (lv a) := by
  unfold level_of.f; rw [fit_eq]; unfold lv; by_cases h : 0 ≤ a ∧ a ≤ 5 <;> simp [h]
theorem rof_eq (a : Int) : curtilageref01_Of.f a = some (lv a) := by
  unfold curtilageref01_Of.f lv; by_cases h : a < 0
  · rw [if_pos h, if_neg (by omega)]
  · rw [if_neg h]; by_cases h2 : a > 5
    · rw [if_pos h2, if_neg (by omega)]
    · rw [if_neg h2, if_pos (by omega)]
theorem mx_eq (a b : Int) : mx a b = max a b := by unfold mx; omega
theorem greatest_eq (k : Nat) (a b : Int) : level_greatest.f (k + 3) [a, b] = some (max (lv a) (lv b)) := by
  have ha := lv_bd a; have hb := lv_bd b
  have w1 : wrap64 1 = 1 := by unfold wrap64; decide
  have w2 : wrap64 2 = 2 := by unfold wrap64; decide
  unfold level_greatest.f
  simp only [level_greatest.l0, List.length_cons, List.length_nil, rd, of_eq, mx_eq]
  simp [w1, w2]
  omega
theorem join_eq (k : Nat) (a b : Int) : level_Join.f (k + 3) a b = some (max (lv a) (lv b)) := by
  unfold level_Join.f; rw [greatest_eq]; rfl
theorem lv_cases (a : Int) : lv a = 0 ∨ lv a = 1 ∨ lv a = 2 ∨ lv a = 3 ∨ lv a = 4 ∨ lv a = 5 := by have := lv_bd a; omega
/-- a level's sign -/
def sg (n : Int) : ByteArray := if n = 0 then ⟨#[42]⟩ else if n = 1 then ⟨#[48]⟩ else if n = 2 then ⟨#[49]⟩ else if n = 3 then ⟨#[50]⟩ else if n = 4 then ⟨#[51]⟩ else ⟨#[74]⟩
theorem ex6 : ((⟨#[42, 48, 49, 50, 51, 74]⟩ : ByteArray).extract 0 1 = ⟨#[42]⟩) ∧ ((⟨#[42, 48, 49, 50, 51, 74]⟩ : ByteArray).extract 1 2 = ⟨#[48]⟩) ∧ ((⟨#[42, 48, 49, 50, 51, 74]⟩ : ByteArray).extract 2 3 = ⟨#[49]⟩) ∧ ((⟨#[42, 48, 49, 50, 51, 74]⟩ : ByteArray).extract 3 4 = ⟨#[50]⟩) ∧ ((⟨#[42, 48, 49, 50, 51, 74]⟩ : ByteArray).extract 4 5 = ⟨#[51]⟩) ∧ ((⟨#[42, 48, 49, 50, 51, 74]⟩ : ByteArray).extract 5 6 = ⟨#[74]⟩) := by
  decide +kernel
theorem text_eq (a : Int) : level_Text.f a = some (sg (lv a)) := by
  obtain ⟨e0, e1, e2, e3, e4, e5⟩ := ex6
  unfold level_Text.f; rw [of_eq]; simp only [Option.bind_some]
  rcases lv_cases a with h | h | h | h | h | h <;> rw [h]
  · have w : wrap64 (0 + 1) = 1 := by unfold wrap64; decide
    rw [w]; simp [sg]; exact e0
  · have w : wrap64 (1 + 1) = 2 := by unfold wrap64; decide
    rw [w]; simp [sg]; exact e1
  · have w : wrap64 (2 + 1) = 3 := by unfold wrap64; decide
    rw [w]; simp [sg]; exact e2
  · have w : wrap64 (3 + 1) = 4 := by unfold wrap64; decide
    rw [w]; simp [sg]; exact e3
  · have w : wrap64 (4 + 1) = 5 := by unfold wrap64; decide
    rw [w]; simp [sg]; exact e4
  · have w : wrap64 (5 + 1) = 6 := by unfold wrap64; decide
    rw [w]; simp [sg]; exact e5
theorem sg_toList (n : Int) : (sg n).toList = if n = 0 then [42] else if n = 1 then [48] else if n = 2 then [49] else if n = 3 then [50] else if n = 4 then [51] else [74] := by
  unfold sg; repeat (split; · decide +kernel)
  decide +kernel
/-- the level of a sign -/
def rdl (s : List UInt8) : Int × Int := if [42] = s then (0, 0) else if [48] = s then (1, 0) else if [49] = s then (2, 0) else if [50] = s then (3, 0) else if [51] = s then (4, 0) else if [74] = s then (5, 0) else (0, 11)
theorem lv_at : lv 0 = 0 ∧ lv 1 = 1 ∧ lv 2 = 2 ∧ lv 3 = 3 ∧ lv 4 = 4 ∧ lv 5 = 5 := by decide
theorem sg_at : (sg 0).toList = [42] ∧ (sg 1).toList = [48] ∧ (sg 2).toList = [49] ∧ (sg 3).toList = [50] ∧ (sg 4).toList = [51] ∧ (sg 5).toList = [74] := by
  simp [sg_toList]
theorem wr_at : wrap64 (0 + 1) = 1 ∧ wrap64 (1 + 1) = 2 ∧ wrap64 (2 + 1) = 3 ∧ wrap64 (3 + 1) = 4 ∧ wrap64 (4 + 1) = 5 ∧ wrap64 (5 + 1) = 6 := by unfold wrap64; decide
theorem read_eq (k : Nat) (s : ByteArray) : level_Read.f (k + 7) s = some (rdl s.toList) := by
  obtain ⟨l0, l1, l2, l3, l4, l5⟩ := lv_at
  obtain ⟨s0, s1, s2, s3, s4, s5⟩ := sg_at
  obtain ⟨w0, w1, w2, w3, w4, w5⟩ := wr_at
  unfold level_Read.f rdl
  simp only [level_Read.l0, text_eq, Option.bind_some, w0, w1, w2, w3, w4, w5, l0, l1, l2, l3, l4, l5, s0, s1, s2, s3, s4, s5]
  simp only [show ((0 : Int) < 6) = True from by decide, show ((1 : Int) < 6) = True from by decide, show ((2 : Int) < 6) = True from by decide, show ((3 : Int) < 6) = True from by decide, show ((4 : Int) < 6) = True from by decide, show ((5 : Int) < 6) = True from by decide, show ((6 : Int) < 6) = False from by decide, if_true, if_false]
  repeat' split
  all_goals first | rfl | contradiction
theorem raise_eq (a : Int) : level_Raise.f a = some (if lv a = 0 then 5 else lv a) := by
  unfold level_Raise.f; rw [of_eq]; simp only [Option.bind_some]; split <;> rfl
theorem awake_eq (k : Nat) : curtilagelaw01_awake.f (k + 7) = some true := by
  unfold curtilagelaw01_awake.f
  rw [read_eq, show k + 7 = (k + 4) + 3 from rfl, join_eq, raise_eq, text_eq]
  have e : (⟨#[52]⟩ : ByteArray).toList = [52] := by decide +kernel
  rw [e]
  have m : max (0 : Int) 4 = 4 := by decide
  simp [lv, sg_toList, rdl, m]

theorem rtext_eq (a : Int) : curtilageref01_Text.f a = some (sg (lv a)) := by
  unfold curtilageref01_Text.f; rw [rof_eq]; simp only [Option.bind_some]; unfold sg; repeat' split
  all_goals rfl
theorem rread_eq (k : Nat) (s : ByteArray) : curtilageref01_Read.f (k + 7) s = some (rdl s.toList) := by
  obtain ⟨l0, l1, l2, l3, l4, l5⟩ := lv_at
  obtain ⟨s0, s1, s2, s3, s4, s5⟩ := sg_at
  obtain ⟨w0, w1, w2, w3, w4, w5⟩ := wr_at
  unfold curtilageref01_Read.f rdl
  simp only [curtilageref01_Read.l0, rtext_eq, Option.bind_some, w0, w1, w2, w3, w4, w5, l0, l1, l2, l3, l4, l5, s0, s1, s2, s3, s4, s5]
  simp only [show ((0 : Int) ≤ 5) = True from by decide, show ((1 : Int) ≤ 5) = True from by decide, show ((2 : Int) ≤ 5) = True from by decide, show ((3 : Int) ≤ 5) = True from by decide, show ((4 : Int) ≤ 5) = True from by decide, show ((5 : Int) ≤ 5) = True from by decide, show ((6 : Int) ≤ 5) = False from by decide, if_true, if_false]
  repeat' split
  all_goals first | rfl | contradiction
theorem rdl_sg (a : Int) : rdl (sg (lv a)).toList = (lv a, 0) := by
  rw [sg_toList]; rcases lv_cases a with h | h | h | h | h | h <;> rw [h] <;> decide
theorem LevelTexts : curtilagelaw01_LevelTexts.Pure := by
  intro a s _ _
  refine ⟨20, ?_⟩
  unfold curtilagelaw01_LevelTexts.f
  rw [show (20 : Nat) = 13 + 7 from rfl, read_eq, rread_eq, text_eq, rtext_eq, awake_eq, rof_eq]
  simp only [Option.bind_some]
  rw [read_eq, rdl_sg]
  simp

end Go.Proofs.Ytocfelaklhpdlaa.Pure
