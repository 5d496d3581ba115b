/- The given statement of LevelSigns: unlike levels have unlike signs of one byte, the ends are the ends; for any two ints.: the call of the Go function returns true and leaves what it read as it was; no condition. -/
import Derived.Test.YtocfelaklhpdlaaRows
import Derived.Test.YtocfelaklhpdlaaPLevelSwapsx1
import Derived.WalkKit
import Derived.ProofKit
import Derived.OpenShut
import Derived.ShutString
import Derived.ChangeOld
import Derived.Below
import Derived.SizedLaws
namespace Go.Proofs.Ytocfelaklhpdlaa.OwnLevelSigns
open Go.RowKit Go.Proofs.Ytocfelaklhpdlaa.PLevelSwaps Go.Proofs.YtocfelaklhpdlaaW.PrintWords Go.Proofs.YtocfelaklhpdlaaW.PrintLast Go.Proofs.YtocfelaklhpdlaaW.PrintMore
set_option linter.unusedVariables false
set_option linter.unusedSimpArgs false

/-- a number as a level -/
def lv (a : Int) : Int := if 0 ≤ a ∧ a ≤ 5 then a else 2
theorem lv_bd (a : Int) : 0 ≤ lv a ∧ lv a ≤ 5 := by unfold lv; split <;> omega
theorem fit_eq (a : Int) : level_Fit.f a = some (decide (0 ≤ a ∧ a ≤ 5)) := by
  unfold level_Fit.f; by_cases h : a ≥ 0
  · rw [if_pos h]; congr 1; simp; omega
  · rw [if_neg h]; congr 1; simp; omega
theorem of_eq (a : Int) : level_of.f a = some (lv a) := by
  unfold level_of.f; rw [fit_eq]; unfold lv; by_cases h : 0 ≤ a ∧ a ≤ 5 <;> simp [h]
theorem rof_eq (a : Int) : curtilageref01_Of.f a = some (lv a) := by
  unfold curtilageref01_Of.f lv; by_cases h : a < 0
  · rw [if_pos h, if_neg (by omega)]
  · rw [if_neg h]; by_cases h2 : a > 5
    · rw [if_pos h2, if_neg (by omega)]
    · rw [if_neg h2, if_pos (by omega)]
theorem mx_eq (a b : Int) : mx a b = max a b := by unfold mx; omega
theorem greatest_eq (k : Nat) (a b : Int) : level_greatest.f (k + 3) [a, b] = some (max (lv a) (lv b)) := by
  have ha := lv_bd a; have hb := lv_bd b
  have w1 : wrap64 1 = 1 := by unfold wrap64; decide
  have w2 : wrap64 2 = 2 := by unfold wrap64; decide
  unfold level_greatest.f
  simp only [level_greatest.l0, List.length_cons, List.length_nil, rd, of_eq, mx_eq]
  simp [w1, w2]
  omega
theorem join_eq (k : Nat) (a b : Int) : level_Join.f (k + 3) a b = some (max (lv a) (lv b)) := by
  unfold level_Join.f; rw [greatest_eq]; rfl
theorem lv_cases (a : Int) : lv a = 0 ∨ lv a = 1 ∨ lv a = 2 ∨ lv a = 3 ∨ lv a = 4 ∨ lv a = 5 := by have := lv_bd a; omega
/-- a level's sign -/
def sg (n : Int) : ByteArray := if n = 0 then ⟨#[42]⟩ else if n = 1 then ⟨#[48]⟩ else if n = 2 then ⟨#[49]⟩ else if n = 3 then ⟨#[50]⟩ else if n = 4 then ⟨#[51]⟩ else ⟨#[74]⟩
theorem ex6 : ((⟨#[42, 48, 49, 50, 51, 74]⟩ : ByteArray).extract 0 1 = ⟨#[42]⟩) ∧ ((⟨#[42, 48, 49, 50, 51, 74]⟩ : ByteArray).extract 1 2 = ⟨#[48]⟩) ∧ ((⟨#[42, 48, 49, 50, 51, 74]⟩ : ByteArray).extract 2 3 = ⟨#[49]⟩) ∧ ((⟨#[42, 48, 49, 50, 51, 74]⟩ : ByteArray).extract 3 4 = ⟨#[50]⟩) ∧ ((⟨#[42, 48, 49, 50, 51, 74]⟩ : ByteArray).extract 4 5 = ⟨#[51]⟩) ∧ ((⟨#[42, 48, 49, 50, 51, 74]⟩ : ByteArray).extract 5 6 = ⟨#[74]⟩) := by
  decide +kernel
theorem text_eq (a : Int) : level_Text.f a = some (sg (lv a)) := by
  obtain ⟨e0, e1, e2, e3, e4, e5⟩ := ex6
  unfold level_Text.f; rw [of_eq]; simp only [Option.bind_some]
  rcases lv_cases a with h | h | h | h | h | h <;> rw [h]
  · have w : wrap64 (0 + 1) = 1 := by unfold wrap64; decide
    rw [w]; simp [sg]; exact e0
  · have w : wrap64 (1 + 1) = 2 := by unfold wrap64; decide
    rw [w]; simp [sg]; exact e1
  · have w : wrap64 (2 + 1) = 3 := by unfold wrap64; decide
    rw [w]; simp [sg]; exact e2
  · have w : wrap64 (3 + 1) = 4 := by unfold wrap64; decide
    rw [w]; simp [sg]; exact e3
  · have w : wrap64 (4 + 1) = 5 := by unfold wrap64; decide
    rw [w]; simp [sg]; exact e4
  · have w : wrap64 (5 + 1) = 6 := by unfold wrap64; decide
    rw [w]; simp [sg]; exact e5
theorem sg_toList (n : Int) : (sg n).toList = if n = 0 then [42] else if n = 1 then [48] else if n = 2 then [49] else if n = 3 then [50] else if n = 4 then [51] else [74] := by
  unfold sg; repeat (split; · decide +kernel)
  decide +kernel
/-- the level of a sign -/
def rdl (s : List UInt8) : Int × Int := if [42] = s then (0, 0) else if [48] = s then (1, 0) else if [49] = s then (2, 0) else if [50] = s then (3, 0) else if [51] = s then (4, 0) else if [74] = s then (5, 0) else (0, 11)
theorem lv_at : lv 0 = 0 ∧ lv 1 = 1 ∧ lv 2 = 2 ∧ lv 3 = 3 ∧ lv 4 = 4 ∧ lv 5 = 5 := by decide
theorem sg_at : (sg 0).toList = [42] ∧ (sg 1).toList = [48] ∧ (sg 2).toList = [49] ∧ (sg 3).toList = [50] ∧ (sg 4).toList = [51] ∧ (sg 5).toList = [74] := by
  simp [sg_toList]
theorem wr_at : wrap64 (0 + 1) = 1 ∧ wrap64 (1 + 1) = 2 ∧ wrap64 (2 + 1) = 3 ∧ wrap64 (3 + 1) = 4 ∧ wrap64 (4 + 1) = 5 ∧ wrap64 (5 + 1) = 6 := by unfold wrap64; decide
theorem read_eq (k : Nat) (s : ByteArray) : level_Read.f (k + 7) s = some (rdl s.toList) := by
  obtain ⟨l0, l1, l2, l3, l4, l5⟩ := lv_at
  obtain ⟨s0, s1, s2, s3, s4, s5⟩ := sg_at
  obtain ⟨w0, w1, w2, w3, w4, w5⟩ := wr_at
  unfold level_Read.f rdl
  simp only [level_Read.l0, text_eq, Option.bind_some, w0, w1, w2, w3, w4, w5, l0, l1, l2, l3, l4, l5, s0, s1, s2, s3, s4, s5]
  simp only [show ((0 : Int) < 6) = True from by decide, show ((1 : Int) < 6) = True from by decide, show ((2 : Int) < 6) = True from by decide, show ((3 : Int) < 6) = True from by decide, show ((4 : Int) < 6) = True from by decide, show ((5 : Int) < 6) = True from by decide, show ((6 : Int) < 6) = False from by decide, if_true, if_false]
  repeat' split
  all_goals first | rfl | contradiction
theorem raise_eq (a : Int) : level_Raise.f a = some (if lv a = 0 then 5 else lv a) := by
  unfold level_Raise.f; rw [of_eq]; simp only [Option.bind_some]; split <;> rfl
theorem awake_eq (k : Nat) : curtilagelaw01_awake.f (k + 7) = some true := by
  unfold curtilagelaw01_awake.f
  rw [read_eq, show k + 7 = (k + 4) + 3 from rfl, join_eq, raise_eq, text_eq]
  have e : (⟨#[52]⟩ : ByteArray).toList = [52] := by decide +kernel
  rw [e]
  have m : max (0 : Int) 4 = 4 := by decide
  simp [lv, sg_toList, rdl, m]

theorem meet_eq (k : Nat) (a b : Int) : level_Meet.f (k + 3) a b = some (min (lv a) (lv b)) := by
  have ha := lv_bd a; have hb := lv_bd b
  unfold level_Meet.f; rw [of_eq, of_eq, greatest_eq]; simp only [Option.bind_some]; congr 1
  have h1 : wrap64 (lv a + lv b) = lv a + lv b := by unfold wrap64; omega
  rw [h1]; unfold wrap64; omega

theorem leq_eq (a b : Int) : level_Leq.f a b = some (decide (lv a ≤ lv b)) := by
  unfold level_Leq.f; rw [of_eq, of_eq]; rfl

theorem join_c (a b r : Int) (h : max (lv a) (lv b) = r) (w : World) : Calls Try.prog 16 #[.int .i64 a, .int .i64 b] w fun e w' => e = .returned (.int .i64 r) ∧ Below w.heap.size w w' :=
  level_Join.calls 3 a b r w (by rw [← h]; exact join_eq 0 a b)

theorem meet_c (a b r : Int) (h : min (lv a) (lv b) = r) (w : World) : Calls Try.prog 17 #[.int .i64 a, .int .i64 b] w fun e w' => e = .returned (.int .i64 r) ∧ Below w.heap.size w w' :=
  level_Meet.calls 3 a b r w (by rw [← h]; exact meet_eq 0 a b)

theorem of_c (a r : Int) (h : lv a = r) (w : World) : Calls Try.prog 13 #[.int .i64 a] w fun e w' => e = .returned (.int .i64 r) ∧ Below w.heap.size w w' :=
  (curtilageref01_Of.calls a r w (by rw [← h]; exact rof_eq a)).mono fun _ _ ⟨he, hd⟩ => ⟨he, hd.below⟩

theorem leq_c (a b : Int) (r : Bool) (h : decide (lv a ≤ lv b) = r) (w : World) : Calls Try.prog 15 #[.int .i64 a, .int .i64 b] w fun e w' => e = .returned (.bool r) ∧ Below w.heap.size w w' :=
  (level_Leq.calls a b r w (by rw [← h]; exact leq_eq a b)).mono fun _ _ ⟨he, hd⟩ => ⟨he, hd.below⟩

theorem text_c (a : Int) (r : ByteArray) (h : sg (lv a) = r) (w : World) : Calls Try.prog 11 #[.int .i64 a] w fun e w' => e = .returned (.string r) ∧ Below w.heap.size w w' :=
  (level_Text.calls a r w (by rw [← h]; exact text_eq a)).mono fun _ _ ⟨he, hd⟩ => ⟨he, hd.below⟩

theorem fit_c (a : Int) (r : Bool) (h : decide (0 ≤ a ∧ a ≤ 5) = r) (w : World) : Calls Try.prog 20 #[.int .i64 a] w fun e w' => e = .returned (.bool r) ∧ Below w.heap.size w w' :=
  (level_Fit.calls a r w (by rw [← h]; exact fit_eq a)).mono fun _ _ ⟨he, hd⟩ => ⟨he, hd.below⟩

theorem awake_c (w : World) : Calls Try.prog 14 #[] w fun e w' => e = .returned (.bool true) ∧ Below w.heap.size w w' :=
  curtilagelaw01_awake.calls 7 true w (awake_eq 0)

set_option maxHeartbeats 8000000 in
set_option maxRecDepth 100000 in
theorem law_at (a0 a1 x : Int) (s t : ByteArray) (p q : Bool) (w : World) (h_x : lv a0 = x) (h_s : sg (lv a0) = s) (h_t : sg (lv a1) = t) (hp : decide (0 ≤ a0 ∧ a0 ≤ 5) = p) (hq : decide (0 ≤ a1 ∧ a1 ≤ 5) = q) (hs : s.size = 1)
    (k : p = false ∨ p = true ∧ q = false ∨ p = true ∧ q = true ∧ (s.toList == t.toList) = (a0 == a1)) :
    Calls Try.prog 7 #[.int .i64 a0, .int .i64 a1] w fun e w' => e = .returned (.bool true) ∧ Below w.heap.size w w' := by
  have HB := Aside0.mk (Below.refl w.heap.size w)
  have bx := lv_bd a0
  obtain ⟨l0, _, _, _, _, l5⟩ := lv_at
  have hs1 : ((s.size : Int) != 1) = false := by rw [hs]; rfl
  have c1 := Aside0.mk (fun w => text_c a0 s h_s w)
  have c2 := Aside0.mk (fun w => fit_c a0 p hp w)
  have c3 := Aside0.mk (fun w => fit_c a1 q hq w)
  have c4 := Aside0.mk (fun w => text_c a1 t h_t w)
  have c5 := Aside0.mk (fun w => leq_c 0 a0 true (decide_eq_true (by omega)) w)
  have c6 := Aside0.mk (fun w => leq_c a0 5 true (decide_eq_true (by omega)) w)
  have c7 := Aside0.mk (fun w => join_c a0 0 x (by omega) w)
  have c8 := Aside0.mk (fun w => of_c a0 x (by omega) w)
  have c9 := Aside0.mk (fun w => meet_c a0 5 x (by omega) w)
  have cA := Aside0.mk (fun w => awake_c w)
  clear l0 l5 bx h_x h_s h_t hp hq hs
  rcases k with rfl | ⟨rfl, rfl⟩ | ⟨rfl, rfl, k⟩
  · skip
    go_enter Try.func7, Try.ntmps7
    go_wp2_with (first | (go_at_call 11; (with_reducible refine (c1.out _).mono ?_); rintro e w' ⟨rfl, hb⟩; have n0_ := Aside0.mk (below_step (by repeat (first | (with_reducible first | exact HB.out | apply below_alloc | apply pw_below_drewN | apply below_drew1) | exact HB.out)) hb); clear HB; have HB := n0_; clear n0_; clear hb) | (go_at_call 20; (with_reducible refine (c2.out _).mono ?_); rintro e w' ⟨rfl, hb⟩; have n0_ := Aside0.mk (below_step (by repeat (first | (with_reducible first | exact HB.out | apply below_alloc | apply pw_below_drewN | apply below_drew1) | exact HB.out)) hb); clear HB; have HB := n0_; clear n0_; clear hb) | (go_at_call 20; (with_reducible refine (c3.out _).mono ?_); rintro e w' ⟨rfl, hb⟩; have n0_ := Aside0.mk (below_step (by repeat (first | (with_reducible first | exact HB.out | apply below_alloc | apply pw_below_drewN | apply below_drew1) | exact HB.out)) hb); clear HB; have HB := n0_; clear n0_; clear hb) | (go_at_call 11; (with_reducible refine (c4.out _).mono ?_); rintro e w' ⟨rfl, hb⟩; have n0_ := Aside0.mk (below_step (by repeat (first | (with_reducible first | exact HB.out | apply below_alloc | apply pw_below_drewN | apply below_drew1) | exact HB.out)) hb); clear HB; have HB := n0_; clear n0_; clear hb) | (go_at_call 15; (with_reducible refine (c5.out _).mono ?_); rintro e w' ⟨rfl, hb⟩; have n0_ := Aside0.mk (below_step (by repeat (first | (with_reducible first | exact HB.out | apply below_alloc | apply pw_below_drewN | apply below_drew1) | exact HB.out)) hb); clear HB; have HB := n0_; clear n0_; clear hb) | (go_at_call 15; (with_reducible refine (c6.out _).mono ?_); rintro e w' ⟨rfl, hb⟩; have n0_ := Aside0.mk (below_step (by repeat (first | (with_reducible first | exact HB.out | apply below_alloc | apply pw_below_drewN | apply below_drew1) | exact HB.out)) hb); clear HB; have HB := n0_; clear n0_; clear hb) | (go_at_call 16; (with_reducible refine (c7.out _).mono ?_); rintro e w' ⟨rfl, hb⟩; have n0_ := Aside0.mk (below_step (by repeat (first | (with_reducible first | exact HB.out | apply below_alloc | apply pw_below_drewN | apply below_drew1) | exact HB.out)) hb); clear HB; have HB := n0_; clear n0_; clear hb) | (go_at_call 13; (with_reducible refine (c8.out _).mono ?_); rintro e w' ⟨rfl, hb⟩; have n0_ := Aside0.mk (below_step (by repeat (first | (with_reducible first | exact HB.out | apply below_alloc | apply pw_below_drewN | apply below_drew1) | exact HB.out)) hb); clear HB; have HB := n0_; clear n0_; clear hb) | (go_at_call 17; (with_reducible refine (c9.out _).mono ?_); rintro e w' ⟨rfl, hb⟩; have n0_ := Aside0.mk (below_step (by repeat (first | (with_reducible first | exact HB.out | apply below_alloc | apply pw_below_drewN | apply below_drew1) | exact HB.out)) hb); clear HB; have HB := n0_; clear n0_; clear hb) | (go_at_call 14; (with_reducible refine (cA.out _).mono ?_); rintro e w' ⟨rfl, hb⟩; have n0_ := Aside0.mk (below_step (by repeat (first | (with_reducible first | exact HB.out | apply below_alloc | apply pw_below_drewN | apply below_drew1) | exact HB.out)) hb); clear HB; have HB := n0_; clear n0_; clear hb))
    go_ret
    exact ⟨rfl, by repeat (first | (with_reducible first | exact HB.out | apply below_alloc | apply pw_below_drewN | apply below_drew1) | exact HB.out)⟩
  · skip
    go_enter Try.func7, Try.ntmps7
    go_wp2_with (first | (go_at_call 11; (with_reducible refine (c1.out _).mono ?_); rintro e w' ⟨rfl, hb⟩; have n0_ := Aside0.mk (below_step (by repeat (first | (with_reducible first | exact HB.out | apply below_alloc | apply pw_below_drewN | apply below_drew1) | exact HB.out)) hb); clear HB; have HB := n0_; clear n0_; clear hb) | (go_at_call 20; (with_reducible refine (c2.out _).mono ?_); rintro e w' ⟨rfl, hb⟩; have n0_ := Aside0.mk (below_step (by repeat (first | (with_reducible first | exact HB.out | apply below_alloc | apply pw_below_drewN | apply below_drew1) | exact HB.out)) hb); clear HB; have HB := n0_; clear n0_; clear hb) | (go_at_call 20; (with_reducible refine (c3.out _).mono ?_); rintro e w' ⟨rfl, hb⟩; have n0_ := Aside0.mk (below_step (by repeat (first | (with_reducible first | exact HB.out | apply below_alloc | apply pw_below_drewN | apply below_drew1) | exact HB.out)) hb); clear HB; have HB := n0_; clear n0_; clear hb) | (go_at_call 11; (with_reducible refine (c4.out _).mono ?_); rintro e w' ⟨rfl, hb⟩; have n0_ := Aside0.mk (below_step (by repeat (first | (with_reducible first | exact HB.out | apply below_alloc | apply pw_below_drewN | apply below_drew1) | exact HB.out)) hb); clear HB; have HB := n0_; clear n0_; clear hb) | (go_at_call 15; (with_reducible refine (c5.out _).mono ?_); rintro e w' ⟨rfl, hb⟩; have n0_ := Aside0.mk (below_step (by repeat (first | (with_reducible first | exact HB.out | apply below_alloc | apply pw_below_drewN | apply below_drew1) | exact HB.out)) hb); clear HB; have HB := n0_; clear n0_; clear hb) | (go_at_call 15; (with_reducible refine (c6.out _).mono ?_); rintro e w' ⟨rfl, hb⟩; have n0_ := Aside0.mk (below_step (by repeat (first | (with_reducible first | exact HB.out | apply below_alloc | apply pw_below_drewN | apply below_drew1) | exact HB.out)) hb); clear HB; have HB := n0_; clear n0_; clear hb) | (go_at_call 16; (with_reducible refine (c7.out _).mono ?_); rintro e w' ⟨rfl, hb⟩; have n0_ := Aside0.mk (below_step (by repeat (first | (with_reducible first | exact HB.out | apply below_alloc | apply pw_below_drewN | apply below_drew1) | exact HB.out)) hb); clear HB; have HB := n0_; clear n0_; clear hb) | (go_at_call 13; (with_reducible refine (c8.out _).mono ?_); rintro e w' ⟨rfl, hb⟩; have n0_ := Aside0.mk (below_step (by repeat (first | (with_reducible first | exact HB.out | apply below_alloc | apply pw_below_drewN | apply below_drew1) | exact HB.out)) hb); clear HB; have HB := n0_; clear n0_; clear hb) | (go_at_call 17; (with_reducible refine (c9.out _).mono ?_); rintro e w' ⟨rfl, hb⟩; have n0_ := Aside0.mk (below_step (by repeat (first | (with_reducible first | exact HB.out | apply below_alloc | apply pw_below_drewN | apply below_drew1) | exact HB.out)) hb); clear HB; have HB := n0_; clear n0_; clear hb) | (go_at_call 14; (with_reducible refine (cA.out _).mono ?_); rintro e w' ⟨rfl, hb⟩; have n0_ := Aside0.mk (below_step (by repeat (first | (with_reducible first | exact HB.out | apply below_alloc | apply pw_below_drewN | apply below_drew1) | exact HB.out)) hb); clear HB; have HB := n0_; clear n0_; clear hb))
    go_ret
    exact ⟨rfl, by repeat (first | (with_reducible first | exact HB.out | apply below_alloc | apply pw_below_drewN | apply below_drew1) | exact HB.out)⟩
  · skip
    go_enter Try.func7, Try.ntmps7
    go_wp2_with (first | (go_at_call 11; (with_reducible refine (c1.out _).mono ?_); rintro e w' ⟨rfl, hb⟩; have n0_ := Aside0.mk (below_step (by repeat (first | (with_reducible first | exact HB.out | apply below_alloc | apply pw_below_drewN | apply below_drew1) | exact HB.out)) hb); clear HB; have HB := n0_; clear n0_; clear hb) | (go_at_call 20; (with_reducible refine (c2.out _).mono ?_); rintro e w' ⟨rfl, hb⟩; have n0_ := Aside0.mk (below_step (by repeat (first | (with_reducible first | exact HB.out | apply below_alloc | apply pw_below_drewN | apply below_drew1) | exact HB.out)) hb); clear HB; have HB := n0_; clear n0_; clear hb) | (go_at_call 20; (with_reducible refine (c3.out _).mono ?_); rintro e w' ⟨rfl, hb⟩; have n0_ := Aside0.mk (below_step (by repeat (first | (with_reducible first | exact HB.out | apply below_alloc | apply pw_below_drewN | apply below_drew1) | exact HB.out)) hb); clear HB; have HB := n0_; clear n0_; clear hb) | (go_at_call 11; (with_reducible refine (c4.out _).mono ?_); rintro e w' ⟨rfl, hb⟩; have n0_ := Aside0.mk (below_step (by repeat (first | (with_reducible first | exact HB.out | apply below_alloc | apply pw_below_drewN | apply below_drew1) | exact HB.out)) hb); clear HB; have HB := n0_; clear n0_; clear hb) | (go_at_call 15; (with_reducible refine (c5.out _).mono ?_); rintro e w' ⟨rfl, hb⟩; have n0_ := Aside0.mk (below_step (by repeat (first | (with_reducible first | exact HB.out | apply below_alloc | apply pw_below_drewN | apply below_drew1) | exact HB.out)) hb); clear HB; have HB := n0_; clear n0_; clear hb) | (go_at_call 15; (with_reducible refine (c6.out _).mono ?_); rintro e w' ⟨rfl, hb⟩; have n0_ := Aside0.mk (below_step (by repeat (first | (with_reducible first | exact HB.out | apply below_alloc | apply pw_below_drewN | apply below_drew1) | exact HB.out)) hb); clear HB; have HB := n0_; clear n0_; clear hb) | (go_at_call 16; (with_reducible refine (c7.out _).mono ?_); rintro e w' ⟨rfl, hb⟩; have n0_ := Aside0.mk (below_step (by repeat (first | (with_reducible first | exact HB.out | apply below_alloc | apply pw_below_drewN | apply below_drew1) | exact HB.out)) hb); clear HB; have HB := n0_; clear n0_; clear hb) | (go_at_call 13; (with_reducible refine (c8.out _).mono ?_); rintro e w' ⟨rfl, hb⟩; have n0_ := Aside0.mk (below_step (by repeat (first | (with_reducible first | exact HB.out | apply below_alloc | apply pw_below_drewN | apply below_drew1) | exact HB.out)) hb); clear HB; have HB := n0_; clear n0_; clear hb) | (go_at_call 17; (with_reducible refine (c9.out _).mono ?_); rintro e w' ⟨rfl, hb⟩; have n0_ := Aside0.mk (below_step (by repeat (first | (with_reducible first | exact HB.out | apply below_alloc | apply pw_below_drewN | apply below_drew1) | exact HB.out)) hb); clear HB; have HB := n0_; clear n0_; clear hb) | (go_at_call 14; (with_reducible refine (cA.out _).mono ?_); rintro e w' ⟨rfl, hb⟩; have n0_ := Aside0.mk (below_step (by repeat (first | (with_reducible first | exact HB.out | apply below_alloc | apply pw_below_drewN | apply below_drew1) | exact HB.out)) hb); clear HB; have HB := n0_; clear n0_; clear hb))
    go_ret
    exact ⟨rfl, by repeat (first | (with_reducible first | exact HB.out | apply below_alloc | apply pw_below_drewN | apply below_drew1) | exact HB.out)⟩
theorem sg_size (n : Int) : (sg n).size = 1 := by
  unfold sg
  repeat (split; · rfl)
  rfl
theorem law_walk (a0 a1 : Int) (w : World) :
    Calls Try.prog 7 #[.int .i64 a0, .int .i64 a1] w fun e w' => e = .returned (.bool true) ∧ Below w.heap.size w w' := by
  refine law_at a0 a1 _ _ _ _ _ w rfl rfl rfl rfl rfl (sg_size _) ?_
  by_cases h1 : 0 ≤ a0 ∧ a0 ≤ 5
  · by_cases h2 : 0 ≤ a1 ∧ a1 ≤ 5
    · refine .inr (.inr ⟨decide_eq_true h1, decide_eq_true h2, ?_⟩)
      have ea : lv a0 = a0 := by rw [lv, if_pos h1]
      have eb : lv a1 = a1 := by rw [lv, if_pos h2]
      have ca := lv_cases a0
      have cb := lv_cases a1
      rw [sg_toList, sg_toList, ea, eb]
      rw [ea] at ca
      rw [eb] at cb
      rcases ca with h | h | h | h | h | h <;> rcases cb with h' | h' | h' | h' | h' | h' <;> subst h <;> subst h' <;> decide
    · exact .inr (.inl ⟨decide_eq_true h1, decide_eq_false h2⟩)
  · exact .inl (decide_eq_false h1)

end Go.Proofs.Ytocfelaklhpdlaa.OwnLevelSigns
namespace Go.Proofs.Ytocfelaklhpdlaa.levelSigns
open Go.ChangeShapes Go.WideShapes Go.ChangeAt Go.RowKit
open Go.ChangeMaps (open_string shut_string)
theorem own : ownKnob Try.prog.godebug = none := by kernel_rfl
set_option maxRecDepth 100000 in
theorem lifted (os : Os) (started : os.Started) (H : Type) (enc : TypeId × Value → H) :
    ReturnsInHanded {} Try.checked os 7 .any (Rows.levelSignsSpec.pre6 enc Try.prog Try.f7 Rows.levelSignsRow.domain false) (Rows.levelSignsSpec.post enc Try.prog Try.f7 false true false false) := by
  refine returnsInHanded_of_change_sized (C := Try.checked) own started (by kernel_rfl) Try.func7
    (ChangeSpec.witness6 (enc := enc) (C := Try.checked) false ⟨#[], #[.int .i64 0, .int .i64 0], []⟩ 8 (by kernel_rfl) (by kernel_rfl) (by kernel_rfl) (by kernel_rfl)) ?_
  intro W base args ds gs before hval0 hW hcnd hsz0 _
  have hval : ∀ (j : Nat) t v, Try.f7.params[j]? = some t → args[j]? = some v → Value.okWide Try.prog W .any base t v := hval0
  have hW' := hW
  obtain ⟨p, q, hA0, hV, rfl, hfz, hnd⟩ := hW
  have hA : DataW.TrodAll enc Try.prog W 0 (fun _ => true) true Try.f7.params.toList args.toList ds p := hA0
  rw [Try.params7] at hA hval
  obtain ⟨v0, vs0, d0, ds0, p0, q0, hargs, rfl, rfl, h0, r0⟩ := trodAll_cons hA
  obtain ⟨v1, vs1, d1, ds1, p1, q1, rfl, rfl, rfl, h1, r1⟩ := trodAll_cons r0
  obtain ⟨rfl, rfl, rfl⟩ := trodAll_nil r1
  obtain rfl : args = #[v0, v1] := by cases args; simp_all
  obtain ⟨rfl, rfl⟩ := trodVars_none hV
  obtain ⟨a0, rfl, rfl, rfl, w0⟩ := open_int Try.underlying3 (hval 0 3 v0 rfl rfl) h0
  obtain ⟨a1, rfl, rfl, rfl, w1⟩ := open_int Try.underlying3 (hval 1 3 v1 rfl rfl) h1
  clear hA0 hval0 hsz0
  refine (OwnLevelSigns.law_walk a0 a1 W).mono fun e W' ⟨he, bel⟩ => ?_
  subst he
  exact ⟨_, rfl, _, _, _, [], _, [], hW', trodAll_mk1 (shut_bool Try.underlying4 _), (trodAll_cons_mk (shut_int Try.underlying3 w0) (trodAll_cons_mk (shut_int Try.underlying3 w1) trodAll_mk0)), rfl, bel.frame _, fun h => by cases h⟩
theorem over : Rows.levelSignsRow.holds Try.pinned (OpenSpec.ofChange Rows.levelSignsSpec) :=
  OpenClaim.holds_of_wide 7 Try.f7 rfl rfl rfl rfl rfl rfl rfl ⟨rfl, rfl, rfl, rfl, rfl⟩ rfl rfl rfl rfl rfl (by kernel_rfl) Try.func7 (by kernel_rfl)
    (of_decide_eq_true (by kernel_rfl)) (by unfold Func.isWrapper; first | (rw [if_pos (by decide +kernel)]; kernel_rfl) | (rw [if_neg (by decide +kernel)]; exact ⟨rfl, rfl⟩))
    (fun os started H enc _ => lifted os started H enc)
theorem proved : Rows.LevelSignsSaid := over
end Go.Proofs.Ytocfelaklhpdlaa.levelSigns
namespace Go.Proofs.Ytocfelaklhpdlaa
/-- The row, under a short name, for the claim. -/
theorem levelSigns_holds : Rows.LevelSignsSaid := levelSigns.proved
end Go.Proofs.Ytocfelaklhpdlaa
