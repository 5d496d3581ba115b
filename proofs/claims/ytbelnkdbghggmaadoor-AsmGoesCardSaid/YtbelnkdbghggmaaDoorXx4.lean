/- Walks of Go functions: each proves that the call answers what the Lean function of its name computes, wherever that is told; written by a program of this work out of the translation. -/
import Derived.Test.YtbelnkdbghggmaaDoorXx0
import Derived.Test.YtbelnkdbghggmaaDoorRa
import Derived.Test.YtbelnkdbghggmaaDoorPa
import Derived.Test.YtbelnkdbghggmaaDoorFi
import Derived.Test.YtbelnkdbghggmaaDoorGd
import Derived.Test.YtbelnkdbghggmaaDoorIh
import Derived.Test.YtbelnkdbghggmaaDoorIb
namespace Go.Proofs.YtbelnkdbghggmaaDoor.X
open Go.RowKit Go.Proofs.YtbelnkdbghggmaaDoorW.PrintWords Go.Proofs.YtbelnkdbghggmaaDoorW.PrintLast

set_option linter.unusedVariables false
set_option linter.unusedSimpArgs false

/-! ### curtilageref08_register: function 33 -/
def curtilageref08_register.f (a0 : Int) (a1 : Bool) : Option (Bool) := if a0 = 0 then (some true) else (if a1 = true then (if a0 > 0 then (some (decide (a0 < 16))) else (some false)) else (some false))
set_option maxHeartbeats 8000000 in
set_option maxRecDepth 100000 in
theorem curtilageref08_register.calls (a0 : Int) (a1 : Bool) (r : Bool) (w : World) (h : curtilageref08_register.f a0 a1 = some r) :
    Calls Tryd.prog 33 #[.int .i64 a0, .bool a1] w fun e w' => e = .returned (.bool r) ∧ Drawn0 w w' := by
  have H : (if a0 = 0 then (some true) else (if a1 = true then (if a0 > 0 then (some (decide (a0 < 16))) else (some false)) else (some false))) = some r := h
  clear h
  by_cases c3 : a0 = 0
  · rw [if_pos c3] at H
    have c3b0 : (a0 == 0) = true := beq_iff_eq.mpr c3
    have c3b1 : (a0 != 0) = false := bne_eq_false_iff_eq.mpr c3
    clear c3
    obtain rfl := Option.some.inj H
    go_enter Tryd.func33, Tryd.ntmps33
    go_wp2
    go_ret
    exact ⟨by first | rfl | (simp; done) | (simp [*]; done), by repeat (first | exact Drawn0.refl _ | apply Drawn0.step)⟩
  · rw [if_neg c3] at H
    have c3b0 : (a0 == 0) = false := beq_eq_false_iff_ne.mpr c3
    have c3b1 : (a0 != 0) = true := bne_iff_ne.mpr c3
    by_cases c4 : a1 = true
    · subst c4
      have H1 : (if a0 > 0 then (some (decide (a0 < 16))) else (some false)) = some r := by rw [if_pos rfl] at H; exact H
      clear H
      have H := H1
      clear H1
      by_cases c5 : a0 > 0
      · rw [if_pos c5] at H
        have c5b0 : decide (0 < a0) = true := decide_eq_true c5
        clear c5
        obtain rfl := Option.some.inj H
        go_enter Tryd.func33, Tryd.ntmps33
        go_wp2
        go_ret
        exact ⟨by first | rfl | (simp; done) | (simp [*]; done), by repeat (first | exact Drawn0.refl _ | apply Drawn0.step)⟩
      · rw [if_neg c5] at H
        have c5b0 : decide (0 < a0) = false := decide_eq_false c5
        clear c5
        obtain rfl := Option.some.inj H
        go_enter Tryd.func33, Tryd.ntmps33
        go_wp2
        go_ret
        exact ⟨by first | rfl | (simp; done) | (simp [*]; done), by repeat (first | exact Drawn0.refl _ | apply Drawn0.step)⟩
    · replace c4 := Bool.eq_false_iff.mpr c4
      subst c4
      have H1 : (some false) = some r := by rw [if_neg (show ¬ (false = true) by decide)] at H; exact H
      clear H
      have H := H1
      clear H1
      obtain rfl := Option.some.inj H
      go_enter Tryd.func33, Tryd.ntmps33
      go_wp2
      go_ret
      exact ⟨by first | rfl | (simp; done) | (simp [*]; done), by repeat (first | exact Drawn0.refl _ | apply Drawn0.step)⟩

/-! ### curtilageref08_Shape: function 49 -/
mutual
def curtilageref08_Shape.j0 : Nat → Int → Bool → Option (ByteArray)
  | 0, _, _ => none
  | k + 1, x3, x4 => if x4 = true then (some (⟨#[97, 105]⟩ : ByteArray)) else (if x3 = 3 then (some (⟨#[97, 98]⟩ : ByteArray)) else (if x3 = 14 then (curtilageref08_Shape.j1 k x3 (x3 == 14)) else (if x3 = 23 then (curtilageref08_Shape.j1 k x3 (x3 == 23)) else (curtilageref08_Shape.j1 k x3 (x3 == 24)))))
def curtilageref08_Shape.j1 : Nat → Int → Bool → Option (ByteArray)
  | 0, _, _ => none
  | k + 1, x3, x12 => if x12 = true then (some (⟨#[97, 98, 105]⟩ : ByteArray)) else (if x3 = 18 then (curtilageref08_Shape.j2 k x3 (x3 == 18)) else (curtilageref08_Shape.j2 k x3 (x3 == 25)))
def curtilageref08_Shape.j2 : Nat → Int → Bool → Option (ByteArray)
  | 0, _, _ => none
  | k + 1, x3, x16 => if x16 = true then (some (⟨#[105]⟩ : ByteArray)) else (if x3 = 22 then (some (⟨#[97]⟩ : ByteArray)) else (if x3 = 4 then (some (⟨#[97, 98, 99]⟩ : ByteArray)) else (if x3 = 5 then (some (⟨#[97, 98, 99]⟩ : ByteArray)) else (if x3 = 6 then (some (⟨#[97, 98, 99]⟩ : ByteArray)) else (if x3 = 7 then (some (⟨#[97, 98, 99]⟩ : ByteArray)) else (if x3 = 8 then (some (⟨#[97, 98, 99]⟩ : ByteArray)) else (if x3 = 9 then (some (⟨#[97, 98, 99]⟩ : ByteArray)) else (if x3 = 10 then (some (⟨#[97, 98, 99]⟩ : ByteArray)) else (if x3 = 11 then (some (⟨#[97, 98, 99]⟩ : ByteArray)) else (if x3 = 12 then (some (⟨#[97, 98, 99]⟩ : ByteArray)) else (if x3 = 13 then (some (⟨#[97, 98, 99]⟩ : ByteArray)) else (if x3 = 15 then (some (⟨#[97, 98, 99]⟩ : ByteArray)) else (if x3 = 16 then (some (⟨#[97, 98, 99]⟩ : ByteArray)) else (if x3 = 17 then (some (⟨#[97, 98, 99]⟩ : ByteArray)) else (some (⟨#[]⟩ : ByteArray))))))))))))))))
end
def curtilageref08_Shape.f (k : Nat) (a0 : Int) : Option (ByteArray) := if a0 = 1 then (curtilageref08_Shape.j0 k a0 (a0 == 1)) else (if a0 = 2 then (curtilageref08_Shape.j0 k a0 (a0 == 2)) else (if a0 = 19 then (curtilageref08_Shape.j0 k a0 (a0 == 19)) else (if a0 = 20 then (curtilageref08_Shape.j0 k a0 (a0 == 20)) else (curtilageref08_Shape.j0 k a0 (a0 == 21)))))
theorem curtilageref08_Shape.mono_l : ∀ k, (∀ y0 y1, LeO (curtilageref08_Shape.j0 k y0 y1) (curtilageref08_Shape.j0 (k + 1) y0 y1)) ∧ (∀ y0 y1, LeO (curtilageref08_Shape.j1 k y0 y1) (curtilageref08_Shape.j1 (k + 1) y0 y1)) ∧ (∀ y0 y1, LeO (curtilageref08_Shape.j2 k y0 y1) (curtilageref08_Shape.j2 (k + 1) y0 y1))
  | 0 => ⟨fun _ _ r h => by simp [curtilageref08_Shape.j0] at h, fun _ _ r h => by simp [curtilageref08_Shape.j1] at h, fun _ _ r h => by simp [curtilageref08_Shape.j2] at h⟩
  | k + 1 => by
    obtain ⟨ih0, ih1, ih2⟩ := curtilageref08_Shape.mono_l k
    refine ⟨?_, ?_, ?_⟩
    · intro y0 y1
      unfold curtilageref08_Shape.j0
      repeat' first
      | (with_reducible exact ih0 _ _)
      | (with_reducible exact ih1 _ _)
      | (with_reducible exact ih2 _ _)
      | (with_reducible exact LeO.refl _)
      | (with_reducible exact LeO.none _)
      | (with_reducible refine LeO.ite ?_ ?_)
      | (with_reducible refine LeO.bind ?_ (fun _ => ?_))
      | exact ih0 _ _
      | exact ih1 _ _
      | exact ih2 _ _
      | exact LeO.none _
      | refine LeO.ite ?_ ?_
      | refine LeO.bind ?_ (fun _ => ?_)
    · intro y0 y1
      unfold curtilageref08_Shape.j1
      repeat' first
      | (with_reducible exact ih0 _ _)
      | (with_reducible exact ih1 _ _)
      | (with_reducible exact ih2 _ _)
      | (with_reducible exact LeO.refl _)
      | (with_reducible exact LeO.none _)
      | (with_reducible refine LeO.ite ?_ ?_)
      | (with_reducible refine LeO.bind ?_ (fun _ => ?_))
      | exact ih0 _ _
      | exact ih1 _ _
      | exact ih2 _ _
      | exact LeO.none _
      | refine LeO.ite ?_ ?_
      | refine LeO.bind ?_ (fun _ => ?_)
    · intro y0 y1
      unfold curtilageref08_Shape.j2
      repeat' first
      | (with_reducible exact ih0 _ _)
      | (with_reducible exact ih1 _ _)
      | (with_reducible exact ih2 _ _)
      | (with_reducible exact LeO.refl _)
      | (with_reducible exact LeO.none _)
      | (with_reducible refine LeO.ite ?_ ?_)
      | (with_reducible refine LeO.bind ?_ (fun _ => ?_))
      | exact ih0 _ _
      | exact ih1 _ _
      | exact ih2 _ _
      | exact LeO.none _
      | refine LeO.ite ?_ ?_
      | refine LeO.bind ?_ (fun _ => ?_)
theorem curtilageref08_Shape.mono : ∀ a0 k, LeO (curtilageref08_Shape.f k a0) (curtilageref08_Shape.f (k + 1) a0) := by
  intro a0 k
  obtain ⟨ih0, ih1, ih2⟩ := curtilageref08_Shape.mono_l k
  unfold curtilageref08_Shape.f
  repeat' first
      | (with_reducible exact ih0 _ _)
      | (with_reducible exact ih1 _ _)
      | (with_reducible exact ih2 _ _)
      | (with_reducible exact LeO.refl _)
      | (with_reducible exact LeO.none _)
      | (with_reducible refine LeO.ite ?_ ?_)
      | (with_reducible refine LeO.bind ?_ (fun _ => ?_))
      | exact ih0 _ _
      | exact ih1 _ _
      | exact ih2 _ _
      | exact LeO.none _
      | refine LeO.ite ?_ ?_
      | refine LeO.bind ?_ (fun _ => ?_)
set_option maxHeartbeats 8000000 in
set_option maxRecDepth 100000 in
theorem curtilageref08_Shape.calls (k : Nat) (a0 : Int) (r : ByteArray) (w : World) (h : curtilageref08_Shape.f k a0 = some r) :
    Calls Tryd.prog 49 #[.int .i64 a0] w fun e w' => e = .returned (.string r) ∧ Drawn0 w w' := by
  have H : (if a0 = 1 then (curtilageref08_Shape.j0 k a0 (a0 == 1)) else (if a0 = 2 then (curtilageref08_Shape.j0 k a0 (a0 == 2)) else (if a0 = 19 then (curtilageref08_Shape.j0 k a0 (a0 == 19)) else (if a0 = 20 then (curtilageref08_Shape.j0 k a0 (a0 == 20)) else (curtilageref08_Shape.j0 k a0 (a0 == 21)))))) = some r := h
  clear h
  have HC2 := Aside0.mk H
  clear H
  go_enter Tryd.func49, Tryd.ntmps49
  go_upto_if 4 with (fail)
  go_cut [4] (fun v4 wc => ∃ (kq : Nat) (x4_1 : Bool), v4 = .bool x4_1 ∧ Aside0 (curtilageref08_Shape.j0 kq a0 x4_1 = some r) ∧ Aside0 (kq ≤ k) ∧ Drawn0 w wc)
  case first =>
    have H := HC2.out
    clear HC2
    by_cases c3 : a0 = 1
    · rw [if_pos c3] at H
      have c3b0 : (a0 == 1) = true := beq_iff_eq.mpr c3
      have c3b1 : (a0 != 1) = false := bne_eq_false_iff_eq.mpr c3
      clear c3
      (first | rw [c3b0] | (simp only [i64_w, i32_w]; rw [c3b0]) | skip)
      have H' := Aside0.mk H
      clear H
      go_wp2
      go_meet
      case rel => exact ⟨_, ((a0 == 1)), (by first | rfl | (simp; done) | (simp [*]; done)), H', ⟨by first | omega | exact Nat.le_refl _⟩, by repeat (first | exact Drawn0.refl _ | apply Drawn0.step)⟩
    · rw [if_neg c3] at H
      have c3b0 : (a0 == 1) = false := beq_eq_false_iff_ne.mpr c3
      have c3b1 : (a0 != 1) = true := bne_iff_ne.mpr c3
      (first | rw [c3b0] | (simp only [i64_w, i32_w]; rw [c3b0]) | skip)
      by_cases c4 : a0 = 2
      · rw [if_pos c4] at H
        have c4b0 : (a0 == 2) = true := beq_iff_eq.mpr c4
        have c4b1 : (a0 != 2) = false := bne_eq_false_iff_eq.mpr c4
        clear c4
        have H' := Aside0.mk H
        clear H
        go_wp2
        go_meet
        case rel => exact ⟨_, ((a0 == 2)), (by first | rfl | (simp; done) | (simp [*]; done)), H', ⟨by first | omega | exact Nat.le_refl _⟩, by repeat (first | exact Drawn0.refl _ | apply Drawn0.step)⟩
      · rw [if_neg c4] at H
        have c4b0 : (a0 == 2) = false := beq_eq_false_iff_ne.mpr c4
        have c4b1 : (a0 != 2) = true := bne_iff_ne.mpr c4
        by_cases c5 : a0 = 19
        · rw [if_pos c5] at H
          have c5b0 : (a0 == 19) = true := beq_iff_eq.mpr c5
          have c5b1 : (a0 != 19) = false := bne_eq_false_iff_eq.mpr c5
          clear c5
          have H' := Aside0.mk H
          clear H
          go_wp2
          go_meet
          case rel => exact ⟨_, ((a0 == 19)), (by first | rfl | (simp; done) | (simp [*]; done)), H', ⟨by first | omega | exact Nat.le_refl _⟩, by repeat (first | exact Drawn0.refl _ | apply Drawn0.step)⟩
        · rw [if_neg c5] at H
          have c5b0 : (a0 == 19) = false := beq_eq_false_iff_ne.mpr c5
          have c5b1 : (a0 != 19) = true := bne_iff_ne.mpr c5
          by_cases c6 : a0 = 20
          · rw [if_pos c6] at H
            have c6b0 : (a0 == 20) = true := beq_iff_eq.mpr c6
            have c6b1 : (a0 != 20) = false := bne_eq_false_iff_eq.mpr c6
            clear c6
            have H' := Aside0.mk H
            clear H
            go_wp2
            go_meet
            case rel => exact ⟨_, ((a0 == 20)), (by first | rfl | (simp; done) | (simp [*]; done)), H', ⟨by first | omega | exact Nat.le_refl _⟩, by repeat (first | exact Drawn0.refl _ | apply Drawn0.step)⟩
          · rw [if_neg c6] at H
            have c6b0 : (a0 == 20) = false := beq_eq_false_iff_ne.mpr c6
            have c6b1 : (a0 != 20) = true := bne_iff_ne.mpr c6
            have H' := Aside0.mk H
            clear H
            go_wp2
            go_meet
            case rel => exact ⟨_, ((a0 == 21)), (by first | rfl | (simp; done) | (simp [*]; done)), H', ⟨by first | omega | exact Nat.le_refl _⟩, by repeat (first | exact Drawn0.refl _ | apply Drawn0.step)⟩
  case rest =>
    clear HC2
    try clear p2
    try clear c3
    try clear c3b0
    try clear c3b1
    try clear c4
    try clear c4b0
    try clear c4b1
    try clear c5
    try clear c5b0
    try clear c5b1
    try clear c6
    try clear c6b0
    try clear c6b1
    obtain ⟨kq, x4_1, rfl, HA, HJ1, ⟨mc1, rfl⟩⟩ := hcut
    cases kq with
    | zero => exact absurd HA.out (by simp [curtilageref08_Shape.j0])
    | succ kj1 =>
      have H := HA.out
      clear HA
      simp only [curtilageref08_Shape.j0] at H
      by_cases c7 : x4_1 = true
      · subst c7
        have H1 : (some (⟨#[97, 105]⟩ : ByteArray)) = some r := by rw [if_pos rfl] at H; exact H
        clear H
        have H := H1
        clear H1
        obtain rfl := Option.some.inj H
        go_wp2
        go_ret
        exact ⟨by first | rfl | (simp; done) | (simp [*]; done), by repeat (first | exact Drawn0.refl _ | apply Drawn0.step)⟩
      · replace c7 := Bool.eq_false_iff.mpr c7
        subst c7
        have H1 : (if a0 = 3 then (some (⟨#[97, 98]⟩ : ByteArray)) else (if a0 = 14 then (curtilageref08_Shape.j1 kj1 a0 (a0 == 14)) else (if a0 = 23 then (curtilageref08_Shape.j1 kj1 a0 (a0 == 23)) else (curtilageref08_Shape.j1 kj1 a0 (a0 == 24))))) = some r := by rw [if_neg (show ¬ (false = true) by decide)] at H; exact H
        clear H
        have H := H1
        clear H1
        by_cases c8 : a0 = 3
        · rw [if_pos c8] at H
          have c8b0 : (a0 == 3) = true := beq_iff_eq.mpr c8
          have c8b1 : (a0 != 3) = false := bne_eq_false_iff_eq.mpr c8
          clear c8
          obtain rfl := Option.some.inj H
          go_wp2
          go_ret
          exact ⟨by first | rfl | (simp; done) | (simp [*]; done), by repeat (first | exact Drawn0.refl _ | apply Drawn0.step)⟩
        · rw [if_neg c8] at H
          have c8b0 : (a0 == 3) = false := beq_eq_false_iff_ne.mpr c8
          have c8b1 : (a0 != 3) = true := bne_iff_ne.mpr c8
          have HC9 := Aside0.mk H
          clear H
          go_upto_if 12 with (fail)
          go_cut [12] (fun v12 wc => ∃ (kq : Nat) (x12_8 : Bool), v12 = .bool x12_8 ∧ Aside0 (curtilageref08_Shape.j1 kq a0 x12_8 = some r) ∧ Aside0 (kq ≤ kj1) ∧ Drawn0 w wc)
          case first =>
            have H := HC9.out
            clear HC9
            by_cases c10 : a0 = 14
            · rw [if_pos c10] at H
              have c10b0 : (a0 == 14) = true := beq_iff_eq.mpr c10
              have c10b1 : (a0 != 14) = false := bne_eq_false_iff_eq.mpr c10
              clear c10
              (first | rw [c10b0] | (simp only [i64_w, i32_w]; rw [c10b0]) | skip)
              have H' := Aside0.mk H
              clear H
              go_wp2
              go_meet
              case rel => exact ⟨_, ((a0 == 14)), (by first | rfl | (simp; done) | (simp [*]; done)), H', ⟨by have := HJ1.out; first | omega | exact Nat.le_refl _⟩, by repeat (first | exact Drawn0.refl _ | apply Drawn0.step)⟩
            · rw [if_neg c10] at H
              have c10b0 : (a0 == 14) = false := beq_eq_false_iff_ne.mpr c10
              have c10b1 : (a0 != 14) = true := bne_iff_ne.mpr c10
              (first | rw [c10b0] | (simp only [i64_w, i32_w]; rw [c10b0]) | skip)
              by_cases c11 : a0 = 23
              · rw [if_pos c11] at H
                have c11b0 : (a0 == 23) = true := beq_iff_eq.mpr c11
                have c11b1 : (a0 != 23) = false := bne_eq_false_iff_eq.mpr c11
                clear c11
                have H' := Aside0.mk H
                clear H
                go_wp2
                go_meet
                case rel => exact ⟨_, ((a0 == 23)), (by first | rfl | (simp; done) | (simp [*]; done)), H', ⟨by have := HJ1.out; first | omega | exact Nat.le_refl _⟩, by repeat (first | exact Drawn0.refl _ | apply Drawn0.step)⟩
              · rw [if_neg c11] at H
                have c11b0 : (a0 == 23) = false := beq_eq_false_iff_ne.mpr c11
                have c11b1 : (a0 != 23) = true := bne_iff_ne.mpr c11
                have H' := Aside0.mk H
                clear H
                go_wp2
                go_meet
                case rel => exact ⟨_, ((a0 == 24)), (by first | rfl | (simp; done) | (simp [*]; done)), H', ⟨by have := HJ1.out; first | omega | exact Nat.le_refl _⟩, by repeat (first | exact Drawn0.refl _ | apply Drawn0.step)⟩
          case rest =>
            clear HC9
            try clear c1
            try clear p2
            try clear c3
            try clear c3b0
            try clear c3b1
            try clear c4
            try clear c4b0
            try clear c4b1
            try clear c5
            try clear c5b0
            try clear c5b1
            try clear c6
            try clear c6b0
            try clear c6b1
            try clear c7
            try clear c8
            try clear c8b0
            try clear c8b1
            try clear c10
            try clear c10b0
            try clear c10b1
            try clear c11
            try clear c11b0
            try clear c11b1
            try clear p2
            obtain ⟨kq, x12_8, rfl, HA, HJ8, ⟨mc8, rfl⟩⟩ := hcut
            cases kq with
            | zero => exact absurd HA.out (by simp [curtilageref08_Shape.j1])
            | succ kj8 =>
              have H := HA.out
              clear HA
              simp only [curtilageref08_Shape.j1] at H
              by_cases c12 : x12_8 = true
              · subst c12
                have H1 : (some (⟨#[97, 98, 105]⟩ : ByteArray)) = some r := by rw [if_pos rfl] at H; exact H
                clear H
                have H := H1
                clear H1
                obtain rfl := Option.some.inj H
                go_wp2
                go_ret
                exact ⟨by first | rfl | (simp; done) | (simp [*]; done), by repeat (first | exact Drawn0.refl _ | apply Drawn0.step)⟩
              · replace c12 := Bool.eq_false_iff.mpr c12
                subst c12
                have H1 : (if a0 = 18 then (curtilageref08_Shape.j2 kj8 a0 (a0 == 18)) else (curtilageref08_Shape.j2 kj8 a0 (a0 == 25))) = some r := by rw [if_neg (show ¬ (false = true) by decide)] at H; exact H
                clear H
                have H := H1
                clear H1
                have HC13 := Aside0.mk H
                clear H
                go_upto_if 16 with (fail)
                go_cut [16] (fun v16 wc => ∃ (kq : Nat) (x16_12 : Bool), v16 = .bool x16_12 ∧ Aside0 (curtilageref08_Shape.j2 kq a0 x16_12 = some r) ∧ Aside0 (kq ≤ kj8) ∧ Drawn0 w wc)
                case first =>
                  have H := HC13.out
                  clear HC13
                  by_cases c14 : a0 = 18
                  · rw [if_pos c14] at H
                    have c14b0 : (a0 == 18) = true := beq_iff_eq.mpr c14
                    have c14b1 : (a0 != 18) = false := bne_eq_false_iff_eq.mpr c14
                    clear c14
                    (first | rw [c14b0] | (simp only [i64_w, i32_w]; rw [c14b0]) | skip)
                    have H' := Aside0.mk H
                    clear H
                    go_wp2
                    go_meet
                    case rel => exact ⟨_, ((a0 == 18)), (by first | rfl | (simp; done) | (simp [*]; done)), H', ⟨by have := HJ1.out; have := HJ8.out; first | omega | exact Nat.le_refl _⟩, by repeat (first | exact Drawn0.refl _ | apply Drawn0.step)⟩
                  · rw [if_neg c14] at H
                    have c14b0 : (a0 == 18) = false := beq_eq_false_iff_ne.mpr c14
                    have c14b1 : (a0 != 18) = true := bne_iff_ne.mpr c14
                    (first | rw [c14b0] | (simp only [i64_w, i32_w]; rw [c14b0]) | skip)
                    have H' := Aside0.mk H
                    clear H
                    go_wp2
                    go_meet
                    case rel => exact ⟨_, ((a0 == 25)), (by first | rfl | (simp; done) | (simp [*]; done)), H', ⟨by have := HJ1.out; have := HJ8.out; first | omega | exact Nat.le_refl _⟩, by repeat (first | exact Drawn0.refl _ | apply Drawn0.step)⟩
                case rest =>
                  clear HC13
                  try clear c1
                  try clear p2
                  try clear c3
                  try clear c3b0
                  try clear c3b1
                  try clear c4
                  try clear c4b0
                  try clear c4b1
                  try clear c5
                  try clear c5b0
                  try clear c5b1
                  try clear c6
                  try clear c6b0
                  try clear c6b1
                  try clear c7
                  try clear c8
                  try clear c8b0
                  try clear c8b1
                  try clear c10
                  try clear c10b0
                  try clear c10b1
                  try clear c11
                  try clear c11b0
                  try clear c11b1
                  try clear c12
                  try clear c14
                  try clear c14b0
                  try clear c14b1
                  try clear p2
                  obtain ⟨kq, x16_12, rfl, HA, HJ12, ⟨mc12, rfl⟩⟩ := hcut
                  cases kq with
                  | zero => exact absurd HA.out (by simp [curtilageref08_Shape.j2])
                  | succ kj12 =>
                    have H := HA.out
                    clear HA
                    simp only [curtilageref08_Shape.j2] at H
                    by_cases c15 : x16_12 = true
                    · subst c15
                      have H1 : (some (⟨#[105]⟩ : ByteArray)) = some r := by rw [if_pos rfl] at H; exact H
                      clear H
                      have H := H1
                      clear H1
                      obtain rfl := Option.some.inj H
                      go_wp2
                      go_ret
                      exact ⟨by first | rfl | (simp; done) | (simp [*]; done), by repeat (first | exact Drawn0.refl _ | apply Drawn0.step)⟩
                    · replace c15 := Bool.eq_false_iff.mpr c15
                      subst c15
                      have H1 : (if a0 = 22 then (some (⟨#[97]⟩ : ByteArray)) else (if a0 = 4 then (some (⟨#[97, 98, 99]⟩ : ByteArray)) else (if a0 = 5 then (some (⟨#[97, 98, 99]⟩ : ByteArray)) else (if a0 = 6 then (some (⟨#[97, 98, 99]⟩ : ByteArray)) else (if a0 = 7 then (some (⟨#[97, 98, 99]⟩ : ByteArray)) else (if a0 = 8 then (some (⟨#[97, 98, 99]⟩ : ByteArray)) else (if a0 = 9 then (some (⟨#[97, 98, 99]⟩ : ByteArray)) else (if a0 = 10 then (some (⟨#[97, 98, 99]⟩ : ByteArray)) else (if a0 = 11 then (some (⟨#[97, 98, 99]⟩ : ByteArray)) else (if a0 = 12 then (some (⟨#[97, 98, 99]⟩ : ByteArray)) else (if a0 = 13 then (some (⟨#[97, 98, 99]⟩ : ByteArray)) else (if a0 = 15 then (some (⟨#[97, 98, 99]⟩ : ByteArray)) else (if a0 = 16 then (some (⟨#[97, 98, 99]⟩ : ByteArray)) else (if a0 = 17 then (some (⟨#[97, 98, 99]⟩ : ByteArray)) else (some (⟨#[]⟩ : ByteArray)))))))))))))))) = some r := by rw [if_neg (show ¬ (false = true) by decide)] at H; exact H
                      clear H
                      have H := H1
                      clear H1
                      by_cases c16 : a0 = 22
                      · rw [if_pos c16] at H
                        have c16b0 : (a0 == 22) = true := beq_iff_eq.mpr c16
                        have c16b1 : (a0 != 22) = false := bne_eq_false_iff_eq.mpr c16
                        clear c16
                        obtain rfl := Option.some.inj H
                        go_wp2
                        go_ret
                        exact ⟨by first | rfl | (simp; done) | (simp [*]; done), by repeat (first | exact Drawn0.refl _ | apply Drawn0.step)⟩
                      · rw [if_neg c16] at H
                        have c16b0 : (a0 == 22) = false := beq_eq_false_iff_ne.mpr c16
                        have c16b1 : (a0 != 22) = true := bne_iff_ne.mpr c16
                        by_cases c17 : a0 = 4
                        · rw [if_pos c17] at H
                          have c17b0 : (a0 == 4) = true := beq_iff_eq.mpr c17
                          have c17b1 : (a0 != 4) = false := bne_eq_false_iff_eq.mpr c17
                          clear c17
                          obtain rfl := Option.some.inj H
                          go_wp2
                          go_ret
                          exact ⟨by first | rfl | (simp; done) | (simp [*]; done), by repeat (first | exact Drawn0.refl _ | apply Drawn0.step)⟩
                        · rw [if_neg c17] at H
                          have c17b0 : (a0 == 4) = false := beq_eq_false_iff_ne.mpr c17
                          have c17b1 : (a0 != 4) = true := bne_iff_ne.mpr c17
                          by_cases c18 : a0 = 5
                          · rw [if_pos c18] at H
                            have c18b0 : (a0 == 5) = true := beq_iff_eq.mpr c18
                            have c18b1 : (a0 != 5) = false := bne_eq_false_iff_eq.mpr c18
                            clear c18
                            obtain rfl := Option.some.inj H
                            go_wp2
                            go_ret
                            exact ⟨by first | rfl | (simp; done) | (simp [*]; done), by repeat (first | exact Drawn0.refl _ | apply Drawn0.step)⟩
                          · rw [if_neg c18] at H
                            have c18b0 : (a0 == 5) = false := beq_eq_false_iff_ne.mpr c18
                            have c18b1 : (a0 != 5) = true := bne_iff_ne.mpr c18
                            by_cases c19 : a0 = 6
                            · rw [if_pos c19] at H
                              have c19b0 : (a0 == 6) = true := beq_iff_eq.mpr c19
                              have c19b1 : (a0 != 6) = false := bne_eq_false_iff_eq.mpr c19
                              clear c19
                              obtain rfl := Option.some.inj H
                              go_wp2
                              go_ret
                              exact ⟨by first | rfl | (simp; done) | (simp [*]; done), by repeat (first | exact Drawn0.refl _ | apply Drawn0.step)⟩
                            · rw [if_neg c19] at H
                              have c19b0 : (a0 == 6) = false := beq_eq_false_iff_ne.mpr c19
                              have c19b1 : (a0 != 6) = true := bne_iff_ne.mpr c19
                              by_cases c20 : a0 = 7
                              · rw [if_pos c20] at H
                                have c20b0 : (a0 == 7) = true := beq_iff_eq.mpr c20
                                have c20b1 : (a0 != 7) = false := bne_eq_false_iff_eq.mpr c20
                                clear c20
                                obtain rfl := Option.some.inj H
                                go_wp2
                                go_ret
                                exact ⟨by first | rfl | (simp; done) | (simp [*]; done), by repeat (first | exact Drawn0.refl _ | apply Drawn0.step)⟩
                              · rw [if_neg c20] at H
                                have c20b0 : (a0 == 7) = false := beq_eq_false_iff_ne.mpr c20
                                have c20b1 : (a0 != 7) = true := bne_iff_ne.mpr c20
                                by_cases c21 : a0 = 8
                                · rw [if_pos c21] at H
                                  have c21b0 : (a0 == 8) = true := beq_iff_eq.mpr c21
                                  have c21b1 : (a0 != 8) = false := bne_eq_false_iff_eq.mpr c21
                                  clear c21
                                  obtain rfl := Option.some.inj H
                                  go_wp2
                                  go_ret
                                  exact ⟨by first | rfl | (simp; done) | (simp [*]; done), by repeat (first | exact Drawn0.refl _ | apply Drawn0.step)⟩
                                · rw [if_neg c21] at H
                                  have c21b0 : (a0 == 8) = false := beq_eq_false_iff_ne.mpr c21
                                  have c21b1 : (a0 != 8) = true := bne_iff_ne.mpr c21
                                  by_cases c22 : a0 = 9
                                  · rw [if_pos c22] at H
                                    have c22b0 : (a0 == 9) = true := beq_iff_eq.mpr c22
                                    have c22b1 : (a0 != 9) = false := bne_eq_false_iff_eq.mpr c22
                                    clear c22
                                    obtain rfl := Option.some.inj H
                                    go_wp2
                                    go_ret
                                    exact ⟨by first | rfl | (simp; done) | (simp [*]; done), by repeat (first | exact Drawn0.refl _ | apply Drawn0.step)⟩
                                  · rw [if_neg c22] at H
                                    have c22b0 : (a0 == 9) = false := beq_eq_false_iff_ne.mpr c22
                                    have c22b1 : (a0 != 9) = true := bne_iff_ne.mpr c22
                                    by_cases c23 : a0 = 10
                                    · rw [if_pos c23] at H
                                      have c23b0 : (a0 == 10) = true := beq_iff_eq.mpr c23
                                      have c23b1 : (a0 != 10) = false := bne_eq_false_iff_eq.mpr c23
                                      clear c23
                                      obtain rfl := Option.some.inj H
                                      go_wp2
                                      go_ret
                                      exact ⟨by first | rfl | (simp; done) | (simp [*]; done), by repeat (first | exact Drawn0.refl _ | apply Drawn0.step)⟩
                                    · rw [if_neg c23] at H
                                      have c23b0 : (a0 == 10) = false := beq_eq_false_iff_ne.mpr c23
                                      have c23b1 : (a0 != 10) = true := bne_iff_ne.mpr c23
                                      by_cases c24 : a0 = 11
                                      · rw [if_pos c24] at H
                                        have c24b0 : (a0 == 11) = true := beq_iff_eq.mpr c24
                                        have c24b1 : (a0 != 11) = false := bne_eq_false_iff_eq.mpr c24
                                        clear c24
                                        obtain rfl := Option.some.inj H
                                        go_wp2
                                        go_ret
                                        exact ⟨by first | rfl | (simp; done) | (simp [*]; done), by repeat (first | exact Drawn0.refl _ | apply Drawn0.step)⟩
                                      · rw [if_neg c24] at H
                                        have c24b0 : (a0 == 11) = false := beq_eq_false_iff_ne.mpr c24
                                        have c24b1 : (a0 != 11) = true := bne_iff_ne.mpr c24
                                        by_cases c25 : a0 = 12
                                        · rw [if_pos c25] at H
                                          have c25b0 : (a0 == 12) = true := beq_iff_eq.mpr c25
                                          have c25b1 : (a0 != 12) = false := bne_eq_false_iff_eq.mpr c25
                                          clear c25
                                          obtain rfl := Option.some.inj H
                                          go_wp2
                                          go_ret
                                          exact ⟨by first | rfl | (simp; done) | (simp [*]; done), by repeat (first | exact Drawn0.refl _ | apply Drawn0.step)⟩
                                        · rw [if_neg c25] at H
                                          have c25b0 : (a0 == 12) = false := beq_eq_false_iff_ne.mpr c25
                                          have c25b1 : (a0 != 12) = true := bne_iff_ne.mpr c25
                                          by_cases c26 : a0 = 13
                                          · rw [if_pos c26] at H
                                            have c26b0 : (a0 == 13) = true := beq_iff_eq.mpr c26
                                            have c26b1 : (a0 != 13) = false := bne_eq_false_iff_eq.mpr c26
                                            clear c26
                                            obtain rfl := Option.some.inj H
                                            go_wp2
                                            go_ret
                                            exact ⟨by first | rfl | (simp; done) | (simp [*]; done), by repeat (first | exact Drawn0.refl _ | apply Drawn0.step)⟩
                                          · rw [if_neg c26] at H
                                            have c26b0 : (a0 == 13) = false := beq_eq_false_iff_ne.mpr c26
                                            have c26b1 : (a0 != 13) = true := bne_iff_ne.mpr c26
                                            by_cases c27 : a0 = 15
                                            · rw [if_pos c27] at H
                                              have c27b0 : (a0 == 15) = true := beq_iff_eq.mpr c27
                                              have c27b1 : (a0 != 15) = false := bne_eq_false_iff_eq.mpr c27
                                              clear c27
                                              obtain rfl := Option.some.inj H
                                              go_wp2
                                              go_ret
                                              exact ⟨by first | rfl | (simp; done) | (simp [*]; done), by repeat (first | exact Drawn0.refl _ | apply Drawn0.step)⟩
                                            · rw [if_neg c27] at H
                                              have c27b0 : (a0 == 15) = false := beq_eq_false_iff_ne.mpr c27
                                              have c27b1 : (a0 != 15) = true := bne_iff_ne.mpr c27
                                              by_cases c28 : a0 = 16
                                              · rw [if_pos c28] at H
                                                have c28b0 : (a0 == 16) = true := beq_iff_eq.mpr c28
                                                have c28b1 : (a0 != 16) = false := bne_eq_false_iff_eq.mpr c28
                                                clear c28
                                                obtain rfl := Option.some.inj H
                                                go_wp2
                                                go_ret
                                                exact ⟨by first | rfl | (simp; done) | (simp [*]; done), by repeat (first | exact Drawn0.refl _ | apply Drawn0.step)⟩
                                              · rw [if_neg c28] at H
                                                have c28b0 : (a0 == 16) = false := beq_eq_false_iff_ne.mpr c28
                                                have c28b1 : (a0 != 16) = true := bne_iff_ne.mpr c28
                                                by_cases c29 : a0 = 17
                                                · rw [if_pos c29] at H
                                                  have c29b0 : (a0 == 17) = true := beq_iff_eq.mpr c29
                                                  have c29b1 : (a0 != 17) = false := bne_eq_false_iff_eq.mpr c29
                                                  clear c29
                                                  obtain rfl := Option.some.inj H
                                                  go_wp2
                                                  go_ret
                                                  exact ⟨by first | rfl | (simp; done) | (simp [*]; done), by repeat (first | exact Drawn0.refl _ | apply Drawn0.step)⟩
                                                · rw [if_neg c29] at H
                                                  have c29b0 : (a0 == 17) = false := beq_eq_false_iff_ne.mpr c29
                                                  have c29b1 : (a0 != 17) = true := bne_iff_ne.mpr c29
                                                  obtain rfl := Option.some.inj H
                                                  go_wp2
                                                  go_ret
                                                  exact ⟨by first | rfl | (simp; done) | (simp [*]; done), by repeat (first | exact Drawn0.refl _ | apply Drawn0.step)⟩

/-! ### curtilageref08_uses: function 34 -/
def curtilageref08_uses.l0 : Nat → Int → ByteArray → Int → Option (Bool)
  | 0, _, _, _ => none
  | k + 1, x1, x5, x6 => if x6 < (x5.size : Int) then (if 0 ≤ x6 then (if (bt x5 x6) = x1 then (some true) else (curtilageref08_uses.l0 k x1 x5 (wrap64 (x6 + 1)))) else (none)) else (some false)
def curtilageref08_uses.f (k : Nat) (a0 : Int) (a1 : Int) : Option (Bool) := (curtilageref08_Shape.f k a0).bind fun t193 => (curtilageref08_uses.l0 k a1 t193 0)
theorem curtilageref08_uses.mono_l : ∀ k, (∀ y0 y1 y2, LeO (curtilageref08_uses.l0 k y0 y1 y2) (curtilageref08_uses.l0 (k + 1) y0 y1 y2))
  | 0 => fun _ _ _ r h => by simp [curtilageref08_uses.l0] at h
  | k + 1 => by
    have ih0 := curtilageref08_uses.mono_l k
    · intro y0 y1 y2
      unfold curtilageref08_uses.l0
      repeat' first
      | (with_reducible exact ih0 _ _ _)
      | (with_reducible exact curtilageref08_Shape.mono _ _)
      | (with_reducible exact LeO.refl _)
      | (with_reducible exact LeO.none _)
      | (with_reducible refine LeO.ite ?_ ?_)
      | (with_reducible refine LeO.bind ?_ (fun _ => ?_))
      | exact ih0 _ _ _
      | exact curtilageref08_Shape.mono _ _
      | exact LeO.none _
      | refine LeO.ite ?_ ?_
      | refine LeO.bind ?_ (fun _ => ?_)
theorem curtilageref08_uses.mono : ∀ a0 a1 k, LeO (curtilageref08_uses.f k a0 a1) (curtilageref08_uses.f (k + 1) a0 a1) := by
  intro a0 a1 k
  have ih0 := curtilageref08_uses.mono_l k
  unfold curtilageref08_uses.f
  repeat' first
      | (with_reducible exact ih0 _ _ _)
      | (with_reducible exact curtilageref08_Shape.mono _ _)
      | (with_reducible exact LeO.refl _)
      | (with_reducible exact LeO.none _)
      | (with_reducible refine LeO.ite ?_ ?_)
      | (with_reducible refine LeO.bind ?_ (fun _ => ?_))
      | exact ih0 _ _ _
      | exact curtilageref08_Shape.mono _ _
      | exact LeO.none _
      | refine LeO.ite ?_ ?_
      | refine LeO.bind ?_ (fun _ => ?_)
set_option maxHeartbeats 8000000 in
set_option maxRecDepth 100000 in
theorem curtilageref08_uses.calls (k : Nat) (a0 : Int) (a1 : Int) (r : Bool) (w : World) (h : curtilageref08_uses.f k a0 a1 = some r) :
    Calls Tryd.prog 34 #[.int .i64 a0, .int .u8 a1] w fun e w' => e = .returned (.bool r) ∧ Drawn0 w w' := by
  have H : ((curtilageref08_Shape.f k a0).bind fun t193 => (curtilageref08_uses.l0 k a1 t193 0)) = some r := h
  clear h
  replace H := Option.bind_eq_some_iff.mp H
  obtain ⟨t193, A30, H⟩ := H
  replace H : (curtilageref08_uses.l0 k a1 t193 0) = some r := H
  have A3 := Aside0.mk A30
  clear A30
  have H' := Aside0.mk H
  clear H
  go_enter Tryd.func34, Tryd.ntmps34
  go_wp2_with (first | ((with_reducible refine gate_callee (f := 49) rfl ?_); refine goesL_ (some 8) rfl rfl Tryd.func49 (by kernel_rfl) rfl #[.int .i64 a0] rfl (by (try simp only [List.map_toArray, List.map_cons, List.map_nil]); first | done | rfl | (simp only [List.length_drop, List.length_take]; rfl)) ?_; (with_reducible refine (curtilageref08_Shape.calls k a0 t193 _ A3.out).mono ?_); rintro e w' ⟨rfl, ⟨nd, rfl⟩⟩; refine ⟨_, rfl, ?_⟩))
  go_loopg [6] k (fun kq v6 w' => ∃ (x6_1 : Int), v6 = .int .i64 x6_1 ∧ Aside0 (curtilageref08_uses.l0 kq a1 t193 x6_1 = some r) ∧ Aside0 (kq ≤ k) ∧ Drawn0 w w')
  case atStart => exact ⟨(0), (by first | rfl | (simp; done) | (simp [*]; done)), H', ⟨Nat.le_refl _⟩, by repeat (first | exact Drawn0.refl _ | apply Drawn0.step)⟩
  case round =>
    clear H'
    try clear p2
    try clear c3
    obtain ⟨x6_1, rfl, HA, HK1, ⟨m1, rfl⟩⟩ := hrel
    cases gk with
    | zero => exact absurd HA.out (by simp [curtilageref08_uses.l0])
    | succ k1 =>
      have H := HA.out
      clear HA
      simp only [curtilageref08_uses.l0] at H
      by_cases c4 : x6_1 < (t193.size : Int)
      · rw [if_pos c4] at H
        have c4b0 : decide (x6_1 < (t193.size : Int)) = true := decide_eq_true c4
        clear c4
        by_cases c5 : 0 ≤ x6_1
        · rw [if_pos c5] at H
          have c5b0 : decide (0 ≤ x6_1) = true := decide_eq_true c5
          clear c5
          by_cases c7 : (bt t193 x6_1) = a1
          · rw [if_pos c7] at H
            have c7b0 : ((bt t193 x6_1) == a1) = true := beq_iff_eq.mpr c7
            have c7b1 : ((bt t193 x6_1) != a1) = false := bne_eq_false_iff_eq.mpr c7
            clear c7
            obtain rfl := Option.some.inj H
            have p6 : 0 ≤ (x6_1 : Int) := of_decide_eq_true (by first | (with_reducible assumption) | assumption)
            have q6 : x6_1 < (t193.size : Int) := of_decide_eq_true (by first | (with_reducible assumption) | assumption)
            have hx6 := bt_at t193 x6_1
            replace p6 := eq_true p6
            replace q6 := eq_true q6
            go_wp2
            go_ret
            exact ⟨by first | rfl | (simp; done) | (simp [*]; done), by repeat (first | exact Drawn0.refl _ | apply Drawn0.step)⟩
          · rw [if_neg c7] at H
            have c7b0 : ((bt t193 x6_1) == a1) = false := beq_eq_false_iff_ne.mpr c7
            have c7b1 : ((bt t193 x6_1) != a1) = true := bne_iff_ne.mpr c7
            have H' := Aside0.mk H
            clear H
            have p6 : 0 ≤ (x6_1 : Int) := of_decide_eq_true (by first | (with_reducible assumption) | assumption)
            have q6 : x6_1 < (t193.size : Int) := of_decide_eq_true (by first | (with_reducible assumption) | assumption)
            have hx6 := bt_at t193 x6_1
            replace p6 := eq_true p6
            replace q6 := eq_true q6
            go_wp2
            go_roundg k1
            case measure => have := HK1.out; omega
            case rel => exact ⟨(wrap64 (x6_1 + 1)), (by first | rfl | (simp; done) | (simp [*]; done)), H', ⟨by have := HK1.out; omega⟩, by repeat (first | exact Drawn0.refl _ | apply Drawn0.step)⟩
        · rw [if_neg c5] at H
          exact absurd H (by simp)
      · rw [if_neg c4] at H
        have c4b0 : decide (x6_1 < (t193.size : Int)) = false := decide_eq_false c4
        clear c4
        obtain rfl := Option.some.inj H
        go_wp2
        go_ret
        exact ⟨by first | rfl | (simp; done) | (simp [*]; done), by repeat (first | exact Drawn0.refl _ | apply Drawn0.step)⟩

end Go.Proofs.YtbelnkdbghggmaaDoor.X
