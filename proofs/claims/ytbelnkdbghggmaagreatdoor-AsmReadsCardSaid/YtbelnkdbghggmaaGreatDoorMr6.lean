/- Texts of this claim that stand one behind another, merged. -/
import Derived.Test.YtbelnkdbghggmaaGreatDoorXx0
import Derived.Test.YtbelnkdbghggmaaGreatDoorMr5
namespace Go.Proofs.YtbelnkdbghggmaaGreatDoor.X
open Go.RowKit Go.Proofs.YtbelnkdbghggmaaGreatDoorW.PrintWords Go.Proofs.YtbelnkdbghggmaaGreatDoorW.PrintLast

set_option linter.unusedVariables false
set_option linter.unusedSimpArgs false

/-! ### curtilageref08_Shape: function 35 -/
mutual
def curtilageref08_Shape.j0 : Nat → Int → Bool → Option (ByteArray)
 | 0, _, _ => none
 | k + 1, x3, x4 => if x4 = true then (some (⟨#[97, 105]⟩ : ByteArray)) else (if x3 = 3 then (some (⟨#[97, 98]⟩ : ByteArray)) else (if x3 = 14 then (curtilageref08_Shape.j1 k x3 (x3 == 14)) else (if x3 = 23 then (curtilageref08_Shape.j1 k x3 (x3 == 23)) else (curtilageref08_Shape.j1 k x3 (x3 == 24)))))
def curtilageref08_Shape.j1 : Nat → Int → Bool → Option (ByteArray)
 | 0, _, _ => none
 | k + 1, x3, x12 => if x12 = true then (some (⟨#[97, 98, 105]⟩ : ByteArray)) else (if x3 = 18 then (curtilageref08_Shape.j2 k x3 (x3 == 18)) else (curtilageref08_Shape.j2 k x3 (x3 == 25)))
def curtilageref08_Shape.j2 : Nat → Int → Bool → Option (ByteArray)
 | 0, _, _ => none
 | k + 1, x3, x16 => if x16 = true then (some (⟨#[105]⟩ : ByteArray)) else (if x3 = 22 then (some (⟨#[97]⟩ : ByteArray)) else (if x3 = 4 then (some (⟨#[97, 98, 99]⟩ : ByteArray)) else (if x3 = 5 then (some (⟨#[97, 98, 99]⟩ : ByteArray)) else (if x3 = 6 then (some (⟨#[97, 98, 99]⟩ : ByteArray)) else (if x3 = 7 then (some (⟨#[97, 98, 99]⟩ : ByteArray)) else (if x3 = 8 then (some (⟨#[97, 98, 99]⟩ : ByteArray)) else (if x3 = 9 then (some (⟨#[97, 98, 99]⟩ : ByteArray)) else (if x3 = 10 then (some (⟨#[97, 98, 99]⟩ : ByteArray)) else (if x3 = 11 then (some (⟨#[97, 98, 99]⟩ : ByteArray)) else (if x3 = 12 then (some (⟨#[97, 98, 99]⟩ : ByteArray)) else (if x3 = 13 then (some (⟨#[97, 98, 99]⟩ : ByteArray)) else (if x3 = 15 then (some (⟨#[97, 98, 99]⟩ : ByteArray)) else (if x3 = 16 then (some (⟨#[97, 98, 99]⟩ : ByteArray)) else (if x3 = 17 then (some (⟨#[97, 98, 99]⟩ : ByteArray)) else (some (⟨#[]⟩ : ByteArray))))))))))))))))
end
def curtilageref08_Shape.f (k : Nat) (a0 : Int) : Option (ByteArray) := if a0 = 1 then (curtilageref08_Shape.j0 k a0 (a0 == 1)) else (if a0 = 2 then (curtilageref08_Shape.j0 k a0 (a0 == 2)) else (if a0 = 19 then (curtilageref08_Shape.j0 k a0 (a0 == 19)) else (if a0 = 20 then (curtilageref08_Shape.j0 k a0 (a0 == 20)) else (curtilageref08_Shape.j0 k a0 (a0 == 21)))))
theorem curtilageref08_Shape.mono_l : ∀ k, (∀ y0 y1, LeO (curtilageref08_Shape.j0 k y0 y1) (curtilageref08_Shape.j0 (k + 1) y0 y1)) ∧ (∀ y0 y1, LeO (curtilageref08_Shape.j1 k y0 y1) (curtilageref08_Shape.j1 (k + 1) y0 y1)) ∧ (∀ y0 y1, LeO (curtilageref08_Shape.j2 k y0 y1) (curtilageref08_Shape.j2 (k + 1) y0 y1))
 | 0 => ⟨fun _ _ r h => by simp [curtilageref08_Shape.j0] at h, fun _ _ r h => by simp [curtilageref08_Shape.j1] at h, fun _ _ r h => by simp [curtilageref08_Shape.j2] at h⟩
 | k + 1 => by
  obtain ⟨ih0, ih1, ih2⟩ := curtilageref08_Shape.mono_l k
  refine ⟨?_, ?_, ?_⟩
  ·intro y0 y1
   unfold curtilageref08_Shape.j0
   repeat' first
  |(with_reducible exact ih0 _ _)
  |(with_reducible exact ih1 _ _)
  |(with_reducible exact ih2 _ _)
  |(with_reducible exact LeO.refl _)
  |(with_reducible exact LeO.none _)
  |(with_reducible refine LeO.ite ?_ ?_)
  |(with_reducible refine LeO.bind ?_ (fun _ => ?_))
  |exact ih0 _ _
  |exact ih1 _ _
  |exact ih2 _ _
  |exact LeO.none _
  |refine LeO.ite ?_ ?_
  |refine LeO.bind ?_ (fun _ => ?_)
  ·intro y0 y1
   unfold curtilageref08_Shape.j1
   repeat' first
  |(with_reducible exact ih0 _ _)
  |(with_reducible exact ih1 _ _)
  |(with_reducible exact ih2 _ _)
  |(with_reducible exact LeO.refl _)
  |(with_reducible exact LeO.none _)
  |(with_reducible refine LeO.ite ?_ ?_)
  |(with_reducible refine LeO.bind ?_ (fun _ => ?_))
  |exact ih0 _ _
  |exact ih1 _ _
  |exact ih2 _ _
  |exact LeO.none _
  |refine LeO.ite ?_ ?_
  |refine LeO.bind ?_ (fun _ => ?_)
  ·intro y0 y1
   unfold curtilageref08_Shape.j2
   repeat' first
  |(with_reducible exact ih0 _ _)
  |(with_reducible exact ih1 _ _)
  |(with_reducible exact ih2 _ _)
  |(with_reducible exact LeO.refl _)
  |(with_reducible exact LeO.none _)
  |(with_reducible refine LeO.ite ?_ ?_)
  |(with_reducible refine LeO.bind ?_ (fun _ => ?_))
  |exact ih0 _ _
  |exact ih1 _ _
  |exact ih2 _ _
  |exact LeO.none _
  |refine LeO.ite ?_ ?_
  |refine LeO.bind ?_ (fun _ => ?_)
theorem curtilageref08_Shape.mono : ∀ a0 k, LeO (curtilageref08_Shape.f k a0) (curtilageref08_Shape.f (k + 1) a0) := by
 intro a0 k
 obtain ⟨ih0, ih1, ih2⟩ := curtilageref08_Shape.mono_l k
 unfold curtilageref08_Shape.f
 repeat' first
  |(with_reducible exact ih0 _ _)
  |(with_reducible exact ih1 _ _)
  |(with_reducible exact ih2 _ _)
  |(with_reducible exact LeO.refl _)
  |(with_reducible exact LeO.none _)
  |(with_reducible refine LeO.ite ?_ ?_)
  |(with_reducible refine LeO.bind ?_ (fun _ => ?_))
  |exact ih0 _ _
  |exact ih1 _ _
  |exact ih2 _ _
  |exact LeO.none _
  |refine LeO.ite ?_ ?_
  |refine LeO.bind ?_ (fun _ => ?_)
set_option maxHeartbeats 8000000 in
set_option maxRecDepth 100000 in
theorem curtilageref08_Shape.calls (k : Nat) (a0 : Int) (r : ByteArray) (w : World) (h : curtilageref08_Shape.f k a0 = some r) :
  Calls Tryz.prog 35 #[.int .i64 a0] w fun e w' => e = .returned (.string r) ∧ Drawn0 w w' := by
 have H := h
 unfold curtilageref08_Shape.f at H
 clear h
 have HC2 := Q4 H
 clear H
 go_enter Tryz.func35, Tryz.ntmps35
 go_upto_if 4 with (fail)
 go_cut [4] (fun v4 wc => ∃ (kq : Nat) (x4_1 : Bool), v4 = .bool x4_1 ∧ Aside0 (curtilageref08_Shape.j0 kq a0 x4_1 = some r) ∧ Aside0 (kq ≤ k) ∧ Drawn0 w wc)
 case first =>
  have H := HC2.out
  clear HC2
  by_cases c3 : a0 = 1
  ·rw [if_pos c3] at H
   have c3b0 : (a0 == 1) = true := Qm c3
   have c3b1 : (a0 != 1) = false := Qh c3
   clear c3
   (first | rw [c3b0]|(simp only [i64_w, i32_w]; rw [c3b0])|skip)
   have H' := Q4 H
   clear H
   go_wp2
   go_meet
   case rel => exact ⟨_, ((a0 == 1)), (by first|rfl|(simp; done)|(simp [*]; done)), H', ⟨by first|omega|exact Nat.le_refl _⟩, by repeat (first|exact Drawn0.refl _|apply Drawn0.step)⟩
  ·rw [if_neg c3] at H
   have c3b0 : (a0 == 1) = false := Qk c3
   have c3b1 : (a0 != 1) = true := Ql c3
   (first | rw [c3b0]|(simp only [i64_w, i32_w]; rw [c3b0])|skip)
   by_cases c4 : a0 = 2
   ·rw [if_pos c4] at H
    have c4b0 : (a0 == 2) = true := Qm c4
    have c4b1 : (a0 != 2) = false := Qh c4
    clear c4
    have H' := Q4 H
    clear H
    go_wp2
    go_meet
    case rel => exact ⟨_, ((a0 == 2)), (by first|rfl|(simp; done)|(simp [*]; done)), H', ⟨by first|omega|exact Nat.le_refl _⟩, by repeat (first|exact Drawn0.refl _|apply Drawn0.step)⟩
   ·rw [if_neg c4] at H
    have c4b0 : (a0 == 2) = false := Qk c4
    have c4b1 : (a0 != 2) = true := Ql c4
    by_cases c5 : a0 = 19
    ·rw [if_pos c5] at H
     have c5b0 : (a0 == 19) = true := Qm c5
     have c5b1 : (a0 != 19) = false := Qh c5
     clear c5
     have H' := Q4 H
     clear H
     go_wp2
     go_meet
     case rel => exact ⟨_, ((a0 == 19)), (by first|rfl|(simp; done)|(simp [*]; done)), H', ⟨by first|omega|exact Nat.le_refl _⟩, by repeat (first|exact Drawn0.refl _|apply Drawn0.step)⟩
    ·rw [if_neg c5] at H
     have c5b0 : (a0 == 19) = false := Qk c5
     have c5b1 : (a0 != 19) = true := Ql c5
     by_cases c6 : a0 = 20
     ·rw [if_pos c6] at H
      have c6b0 : (a0 == 20) = true := Qm c6
      have c6b1 : (a0 != 20) = false := Qh c6
      clear c6
      have H' := Q4 H
      clear H
      go_wp2
      go_meet
      case rel => exact ⟨_, ((a0 == 20)), (by first|rfl|(simp; done)|(simp [*]; done)), H', ⟨by first|omega|exact Nat.le_refl _⟩, by repeat (first|exact Drawn0.refl _|apply Drawn0.step)⟩
     ·rw [if_neg c6] at H
      have c6b0 : (a0 == 20) = false := Qk c6
      have c6b1 : (a0 != 20) = true := Ql c6
      have H' := Q4 H
      clear H
      go_wp2
      go_meet
      case rel => exact ⟨_, ((a0 == 21)), (by first|rfl|(simp; done)|(simp [*]; done)), H', ⟨by first|omega|exact Nat.le_refl _⟩, by repeat (first|exact Drawn0.refl _|apply Drawn0.step)⟩
 case rest =>
  clear HC2
  (try clear p2);(try clear c3);(try clear c3b0);(try clear c3b1);(try clear c4);(try clear c4b0);(try clear c4b1);(try clear c5);(try clear c5b0);(try clear c5b1);(try clear c6);(try clear c6b0);(try clear c6b1)
  obtain ⟨kq, x4_1, rfl, HA, HJ1, ⟨mc1, rfl⟩⟩ := hcut
  cases kq with
  | zero => exact absurd HA.out (by simp [curtilageref08_Shape.j0])
  | succ kj1 =>
   have H := HA.out
   clear HA
   simp only [curtilageref08_Shape.j0] at H
   by_cases c7 : x4_1 = true
   ·subst c7
    rw [if_pos rfl] at H
    obtain rfl := Qn H
    go_wp2
    go_ret
    exact ⟨by first|rfl|(simp; done)|(simp [*]; done), by repeat (first|exact Drawn0.refl _|apply Drawn0.step)⟩
   ·replace c7 := Bool.eq_false_iff.mpr c7
    subst c7
    rw [if_neg (show ¬ (false = true) by decide)] at H
    by_cases c8 : a0 = 3
    ·rw [if_pos c8] at H
     have c8b0 : (a0 == 3) = true := Qm c8
     have c8b1 : (a0 != 3) = false := Qh c8
     clear c8
     obtain rfl := Qn H
     go_wp2
     go_ret
     exact ⟨by first|rfl|(simp; done)|(simp [*]; done), by repeat (first|exact Drawn0.refl _|apply Drawn0.step)⟩
    ·rw [if_neg c8] at H
     have c8b0 : (a0 == 3) = false := Qk c8
     have c8b1 : (a0 != 3) = true := Ql c8
     have HC9 := Q4 H
     clear H
     go_upto_if 12 with (fail)
     go_cut [12] (fun v12 wc => ∃ (kq : Nat) (x12_8 : Bool), v12 = .bool x12_8 ∧ Aside0 (curtilageref08_Shape.j1 kq a0 x12_8 = some r) ∧ Aside0 (kq ≤ kj1) ∧ Drawn0 w wc)
     case first =>
      have H := HC9.out
      clear HC9
      by_cases c10 : a0 = 14
      ·rw [if_pos c10] at H
       have c10b0 : (a0 == 14) = true := Qm c10
       have c10b1 : (a0 != 14) = false := Qh c10
       clear c10
       (first | rw [c10b0]|(simp only [i64_w, i32_w]; rw [c10b0])|skip)
       have H' := Q4 H
       clear H
       go_wp2
       go_meet
       case rel => exact ⟨_, ((a0 == 14)), (by first|rfl|(simp; done)|(simp [*]; done)), H', ⟨by have := HJ1.out; first|omega|exact Nat.le_refl _⟩, by repeat (first|exact Drawn0.refl _|apply Drawn0.step)⟩
      ·rw [if_neg c10] at H
       have c10b0 : (a0 == 14) = false := Qk c10
       have c10b1 : (a0 != 14) = true := Ql c10
       (first | rw [c10b0]|(simp only [i64_w, i32_w]; rw [c10b0])|skip)
       by_cases c11 : a0 = 23
       ·rw [if_pos c11] at H
        have c11b0 : (a0 == 23) = true := Qm c11
        have c11b1 : (a0 != 23) = false := Qh c11
        clear c11
        have H' := Q4 H
        clear H
        go_wp2
        go_meet
        case rel => exact ⟨_, ((a0 == 23)), (by first|rfl|(simp; done)|(simp [*]; done)), H', ⟨by have := HJ1.out; first|omega|exact Nat.le_refl _⟩, by repeat (first|exact Drawn0.refl _|apply Drawn0.step)⟩
       ·rw [if_neg c11] at H
        have c11b0 : (a0 == 23) = false := Qk c11
        have c11b1 : (a0 != 23) = true := Ql c11
        have H' := Q4 H
        clear H
        go_wp2
        go_meet
        case rel => exact ⟨_, ((a0 == 24)), (by first|rfl|(simp; done)|(simp [*]; done)), H', ⟨by have := HJ1.out; first|omega|exact Nat.le_refl _⟩, by repeat (first|exact Drawn0.refl _|apply Drawn0.step)⟩
     case rest =>
      clear HC9
      (try clear c1);(try clear p2);(try clear c3);(try clear c3b0);(try clear c3b1);(try clear c4);(try clear c4b0);(try clear c4b1);(try clear c5);(try clear c5b0);(try clear c5b1);(try clear c6);(try clear c6b0);(try clear c6b1);(try clear c7);(try clear c8);(try clear c8b0);(try clear c8b1);(try clear c10);(try clear c10b0);(try clear c10b1);(try clear c11);(try clear c11b0);(try clear c11b1);(try clear p2)
      obtain ⟨kq, x12_8, rfl, HA, HJ8, ⟨mc8, rfl⟩⟩ := hcut
      cases kq with
      | zero => exact absurd HA.out (by simp [curtilageref08_Shape.j1])
      | succ kj8 =>
       have H := HA.out
       clear HA
       simp only [curtilageref08_Shape.j1] at H
       by_cases c12 : x12_8 = true
       ·subst c12
        rw [if_pos rfl] at H
        obtain rfl := Qn H
        go_wp2
        go_ret
        exact ⟨by first|rfl|(simp; done)|(simp [*]; done), by repeat (first|exact Drawn0.refl _|apply Drawn0.step)⟩
       ·replace c12 := Bool.eq_false_iff.mpr c12
        subst c12
        rw [if_neg (show ¬ (false = true) by decide)] at H
        have HC13 := Q4 H
        clear H
        go_upto_if 16 with (fail)
        go_cut [16] (fun v16 wc => ∃ (kq : Nat) (x16_12 : Bool), v16 = .bool x16_12 ∧ Aside0 (curtilageref08_Shape.j2 kq a0 x16_12 = some r) ∧ Aside0 (kq ≤ kj8) ∧ Drawn0 w wc)
        case first =>
         have H := HC13.out
         clear HC13
         by_cases c14 : a0 = 18
         ·rw [if_pos c14] at H
          have c14b0 : (a0 == 18) = true := Qm c14
          have c14b1 : (a0 != 18) = false := Qh c14
          clear c14
          (first | rw [c14b0]|(simp only [i64_w, i32_w]; rw [c14b0])|skip)
          have H' := Q4 H
          clear H
          go_wp2
          go_meet
          case rel => exact ⟨_, ((a0 == 18)), (by first|rfl|(simp; done)|(simp [*]; done)), H', ⟨by have := HJ1.out; have := HJ8.out; first|omega|exact Nat.le_refl _⟩, by repeat (first|exact Drawn0.refl _|apply Drawn0.step)⟩
         ·rw [if_neg c14] at H
          have c14b0 : (a0 == 18) = false := Qk c14
          have c14b1 : (a0 != 18) = true := Ql c14
          (first | rw [c14b0]|(simp only [i64_w, i32_w]; rw [c14b0])|skip)
          have H' := Q4 H
          clear H
          go_wp2
          go_meet
          case rel => exact ⟨_, ((a0 == 25)), (by first|rfl|(simp; done)|(simp [*]; done)), H', ⟨by have := HJ1.out; have := HJ8.out; first|omega|exact Nat.le_refl _⟩, by repeat (first|exact Drawn0.refl _|apply Drawn0.step)⟩
        case rest =>
         clear HC13
         (try clear c1);(try clear p2);(try clear c3);(try clear c3b0);(try clear c3b1);(try clear c4);(try clear c4b0);(try clear c4b1);(try clear c5);(try clear c5b0);(try clear c5b1);(try clear c6);(try clear c6b0);(try clear c6b1);(try clear c7);(try clear c8);(try clear c8b0);(try clear c8b1);(try clear c10);(try clear c10b0);(try clear c10b1);(try clear c11);(try clear c11b0);(try clear c11b1);(try clear c12);(try clear c14);(try clear c14b0);(try clear c14b1);(try clear p2)
         obtain ⟨kq, x16_12, rfl, HA, HJ12, ⟨mc12, rfl⟩⟩ := hcut
         cases kq with
         | zero => exact absurd HA.out (by simp [curtilageref08_Shape.j2])
         | succ kj12 =>
          have H := HA.out
          clear HA
          simp only [curtilageref08_Shape.j2] at H
          by_cases c15 : x16_12 = true
          ·subst c15
           rw [if_pos rfl] at H
           obtain rfl := Qn H
           go_wp2
           go_ret
           exact ⟨by first|rfl|(simp; done)|(simp [*]; done), by repeat (first|exact Drawn0.refl _|apply Drawn0.step)⟩
          ·replace c15 := Bool.eq_false_iff.mpr c15
           subst c15
           rw [if_neg (show ¬ (false = true) by decide)] at H
           by_cases c16 : a0 = 22
           ·rw [if_pos c16] at H
            have c16b0 : (a0 == 22) = true := Qm c16
            have c16b1 : (a0 != 22) = false := Qh c16
            clear c16
            obtain rfl := Qn H
            go_wp2
            go_ret
            exact ⟨by first|rfl|(simp; done)|(simp [*]; done), by repeat (first|exact Drawn0.refl _|apply Drawn0.step)⟩
           ·rw [if_neg c16] at H
            have c16b0 : (a0 == 22) = false := Qk c16
            have c16b1 : (a0 != 22) = true := Ql c16
            by_cases c17 : a0 = 4
            ·rw [if_pos c17] at H
             have c17b0 : (a0 == 4) = true := Qm c17
             have c17b1 : (a0 != 4) = false := Qh c17
             clear c17
             obtain rfl := Qn H
             go_wp2
             go_ret
             exact ⟨by first|rfl|(simp; done)|(simp [*]; done), by repeat (first|exact Drawn0.refl _|apply Drawn0.step)⟩
            ·rw [if_neg c17] at H
             have c17b0 : (a0 == 4) = false := Qk c17
             have c17b1 : (a0 != 4) = true := Ql c17
             by_cases c18 : a0 = 5
             ·rw [if_pos c18] at H
              have c18b0 : (a0 == 5) = true := Qm c18
              have c18b1 : (a0 != 5) = false := Qh c18
              clear c18
              obtain rfl := Qn H
              go_wp2
              go_ret
              exact ⟨by first|rfl|(simp; done)|(simp [*]; done), by repeat (first|exact Drawn0.refl _|apply Drawn0.step)⟩
             ·rw [if_neg c18] at H
              have c18b0 : (a0 == 5) = false := Qk c18
              have c18b1 : (a0 != 5) = true := Ql c18
              by_cases c19 : a0 = 6
              ·rw [if_pos c19] at H
               have c19b0 : (a0 == 6) = true := Qm c19
               have c19b1 : (a0 != 6) = false := Qh c19
               clear c19
               obtain rfl := Qn H
               go_wp2
               go_ret
               exact ⟨by first|rfl|(simp; done)|(simp [*]; done), by repeat (first|exact Drawn0.refl _|apply Drawn0.step)⟩
              ·rw [if_neg c19] at H
               have c19b0 : (a0 == 6) = false := Qk c19
               have c19b1 : (a0 != 6) = true := Ql c19
               by_cases c20 : a0 = 7
               ·rw [if_pos c20] at H
                have c20b0 : (a0 == 7) = true := Qm c20
                have c20b1 : (a0 != 7) = false := Qh c20
                clear c20
                obtain rfl := Qn H
                go_wp2
                go_ret
                exact ⟨by first|rfl|(simp; done)|(simp [*]; done), by repeat (first|exact Drawn0.refl _|apply Drawn0.step)⟩
               ·rw [if_neg c20] at H
                have c20b0 : (a0 == 7) = false := Qk c20
                have c20b1 : (a0 != 7) = true := Ql c20
                by_cases c21 : a0 = 8
                ·rw [if_pos c21] at H
                 have c21b0 : (a0 == 8) = true := Qm c21
                 have c21b1 : (a0 != 8) = false := Qh c21
                 clear c21
                 obtain rfl := Qn H
                 go_wp2
                 go_ret
                 exact ⟨by first|rfl|(simp; done)|(simp [*]; done), by repeat (first|exact Drawn0.refl _|apply Drawn0.step)⟩
                ·rw [if_neg c21] at H
                 have c21b0 : (a0 == 8) = false := Qk c21
                 have c21b1 : (a0 != 8) = true := Ql c21
                 by_cases c22 : a0 = 9
                 ·rw [if_pos c22] at H
                  have c22b0 : (a0 == 9) = true := Qm c22
                  have c22b1 : (a0 != 9) = false := Qh c22
                  clear c22
                  obtain rfl := Qn H
                  go_wp2
                  go_ret
                  exact ⟨by first|rfl|(simp; done)|(simp [*]; done), by repeat (first|exact Drawn0.refl _|apply Drawn0.step)⟩
                 ·rw [if_neg c22] at H
                  have c22b0 : (a0 == 9) = false := Qk c22
                  have c22b1 : (a0 != 9) = true := Ql c22
                  by_cases c23 : a0 = 10
                  ·rw [if_pos c23] at H
                   have c23b0 : (a0 == 10) = true := Qm c23
                   have c23b1 : (a0 != 10) = false := Qh c23
                   clear c23
                   obtain rfl := Qn H
                   go_wp2
                   go_ret
                   exact ⟨by first|rfl|(simp; done)|(simp [*]; done), by repeat (first|exact Drawn0.refl _|apply Drawn0.step)⟩
                  ·rw [if_neg c23] at H
                   have c23b0 : (a0 == 10) = false := Qk c23
                   have c23b1 : (a0 != 10) = true := Ql c23
                   by_cases c24 : a0 = 11
                   ·rw [if_pos c24] at H
                    have c24b0 : (a0 == 11) = true := Qm c24
                    have c24b1 : (a0 != 11) = false := Qh c24
                    clear c24
                    obtain rfl := Qn H
                    go_wp2
                    go_ret
                    exact ⟨by first|rfl|(simp; done)|(simp [*]; done), by repeat (first|exact Drawn0.refl _|apply Drawn0.step)⟩
                   ·rw [if_neg c24] at H
                    have c24b0 : (a0 == 11) = false := Qk c24
                    have c24b1 : (a0 != 11) = true := Ql c24
                    by_cases c25 : a0 = 12
                    ·rw [if_pos c25] at H
                     have c25b0 : (a0 == 12) = true := Qm c25
                     have c25b1 : (a0 != 12) = false := Qh c25
                     clear c25
                     obtain rfl := Qn H
                     go_wp2
                     go_ret
                     exact ⟨by first|rfl|(simp; done)|(simp [*]; done), by repeat (first|exact Drawn0.refl _|apply Drawn0.step)⟩
                    ·rw [if_neg c25] at H
                     have c25b0 : (a0 == 12) = false := Qk c25
                     have c25b1 : (a0 != 12) = true := Ql c25
                     by_cases c26 : a0 = 13
                     ·rw [if_pos c26] at H
                      have c26b0 : (a0 == 13) = true := Qm c26
                      have c26b1 : (a0 != 13) = false := Qh c26
                      clear c26
                      obtain rfl := Qn H
                      go_wp2
                      go_ret
                      exact ⟨by first|rfl|(simp; done)|(simp [*]; done), by repeat (first|exact Drawn0.refl _|apply Drawn0.step)⟩
                     ·rw [if_neg c26] at H
                      have c26b0 : (a0 == 13) = false := Qk c26
                      have c26b1 : (a0 != 13) = true := Ql c26
                      by_cases c27 : a0 = 15
                      ·rw [if_pos c27] at H
                       have c27b0 : (a0 == 15) = true := Qm c27
                       have c27b1 : (a0 != 15) = false := Qh c27
                       clear c27
                       obtain rfl := Qn H
                       go_wp2
                       go_ret
                       exact ⟨by first|rfl|(simp; done)|(simp [*]; done), by repeat (first|exact Drawn0.refl _|apply Drawn0.step)⟩
                      ·rw [if_neg c27] at H
                       have c27b0 : (a0 == 15) = false := Qk c27
                       have c27b1 : (a0 != 15) = true := Ql c27
                       by_cases c28 : a0 = 16
                       ·rw [if_pos c28] at H
                        have c28b0 : (a0 == 16) = true := Qm c28
                        have c28b1 : (a0 != 16) = false := Qh c28
                        clear c28
                        obtain rfl := Qn H
                        go_wp2
                        go_ret
                        exact ⟨by first|rfl|(simp; done)|(simp [*]; done), by repeat (first|exact Drawn0.refl _|apply Drawn0.step)⟩
                       ·rw [if_neg c28] at H
                        have c28b0 : (a0 == 16) = false := Qk c28
                        have c28b1 : (a0 != 16) = true := Ql c28
                        by_cases c29 : a0 = 17
                        ·rw [if_pos c29] at H
                         have c29b0 : (a0 == 17) = true := Qm c29
                         have c29b1 : (a0 != 17) = false := Qh c29
                         clear c29
                         obtain rfl := Qn H
                         go_wp2
                         go_ret
                         exact ⟨by first|rfl|(simp; done)|(simp [*]; done), by repeat (first|exact Drawn0.refl _|apply Drawn0.step)⟩
                        ·rw [if_neg c29] at H
                         have c29b0 : (a0 == 17) = false := Qk c29
                         have c29b1 : (a0 != 17) = true := Ql c29
                         obtain rfl := Qn H
                         go_wp2
                         go_ret
                         exact ⟨by first|rfl|(simp; done)|(simp [*]; done), by repeat (first|exact Drawn0.refl _|apply Drawn0.step)⟩

/-! ### curtilageref08_uses: function 61 -/
def curtilageref08_uses.l0 : Nat → Int → ByteArray → Int → Option (Bool)
 | 0, _, _, _ => none
 | k + 1, x1, x5, x6 => if x6 < (x5.size : Int) then (if 0 ≤ x6 then (if (bt x5 x6) = x1 then (some true) else (curtilageref08_uses.l0 k x1 x5 (wrap64 (x6 + 1)))) else (none)) else (some false)
def curtilageref08_uses.f (k : Nat) (a0 : Int) (a1 : Int) : Option (Bool) := (curtilageref08_Shape.f k a0).bind fun t140 => (curtilageref08_uses.l0 k a1 t140 0)
theorem curtilageref08_uses.mono_l : ∀ k, (∀ y0 y1 y2, LeO (curtilageref08_uses.l0 k y0 y1 y2) (curtilageref08_uses.l0 (k + 1) y0 y1 y2))
 | 0 => fun _ _ _ r h => by simp [curtilageref08_uses.l0] at h
 | k + 1 => by
  have ih0 := curtilageref08_uses.mono_l k
  ·intro y0 y1 y2
   unfold curtilageref08_uses.l0
   repeat' first
  |(with_reducible exact ih0 _ _ _)
  |(with_reducible exact curtilageref08_Shape.mono _ _)
  |(with_reducible exact LeO.refl _)
  |(with_reducible exact LeO.none _)
  |(with_reducible refine LeO.ite ?_ ?_)
  |(with_reducible refine LeO.bind ?_ (fun _ => ?_))
  |exact ih0 _ _ _
  |exact curtilageref08_Shape.mono _ _
  |exact LeO.none _
  |refine LeO.ite ?_ ?_
  |refine LeO.bind ?_ (fun _ => ?_)
theorem curtilageref08_uses.mono : ∀ a0 a1 k, LeO (curtilageref08_uses.f k a0 a1) (curtilageref08_uses.f (k + 1) a0 a1) := by
 intro a0 a1 k
 have ih0 := curtilageref08_uses.mono_l k
 unfold curtilageref08_uses.f
 repeat' first
  |(with_reducible exact ih0 _ _ _)
  |(with_reducible exact curtilageref08_Shape.mono _ _)
  |(with_reducible exact LeO.refl _)
  |(with_reducible exact LeO.none _)
  |(with_reducible refine LeO.ite ?_ ?_)
  |(with_reducible refine LeO.bind ?_ (fun _ => ?_))
  |exact ih0 _ _ _
  |exact curtilageref08_Shape.mono _ _
  |exact LeO.none _
  |refine LeO.ite ?_ ?_
  |refine LeO.bind ?_ (fun _ => ?_)
set_option maxHeartbeats 8000000 in
set_option maxRecDepth 100000 in
theorem curtilageref08_uses.calls (k : Nat) (a0 : Int) (a1 : Int) (r : Bool) (w : World) (h : curtilageref08_uses.f k a0 a1 = some r) :
  Calls Tryz.prog 61 #[.int .i64 a0, .int .u8 a1] w fun e w' => e = .returned (.bool r) ∧ Drawn0 w w' := by
 have H : ((curtilageref08_Shape.f k a0).bind fun t140 => (curtilageref08_uses.l0 k a1 t140 0)) = some r := h
 clear h
 replace H := Qi H
 obtain ⟨t140, A30, H⟩ := H
 try dsimp only at H
 have A3 := Q4 A30
 clear A30
 have H' := Q4 H
 clear H
 go_enter Tryz.func61, Tryz.ntmps61
 go_wp2_with (first|((with_reducible refine gate_callee (f := 35) rfl ?_); refine gL (some 8) Tryz.func35 #[.int .i64 a0] ?_; (with_reducible refine (curtilageref08_Shape.calls k a0 t140 _ A3.out).mono ?_); rintro e w' ⟨rfl, ⟨nd, rfl⟩⟩; refine ⟨_, rfl, ?_⟩))
 go_loopg [6] k (fun kq v6 w' => ∃ (x6_1 : Int), v6 = .int .i64 x6_1 ∧ Aside0 (curtilageref08_uses.l0 kq a1 t140 x6_1 = some r) ∧ Aside0 (kq ≤ k) ∧ Drawn0 w w')
 case atStart => exact ⟨(0), (by first|rfl|(simp; done)|(simp [*]; done)), H', ⟨Nat.le_refl _⟩, by repeat (first|exact Drawn0.refl _|apply Drawn0.step)⟩
 case round =>
  clear H'
  (try clear p2);(try clear c3)
  obtain ⟨x6_1, rfl, HA, HK1, ⟨m1, rfl⟩⟩ := hrel
  cases gk with
  | zero => exact absurd HA.out (by simp [curtilageref08_uses.l0])
  | succ k1 =>
   have H := HA.out
   clear HA
   simp only [curtilageref08_uses.l0] at H
   by_cases c4 : x6_1 < (t140.size : Int)
   ·rw [if_pos c4] at H
    have c4b0 : decide (x6_1 < (t140.size : Int)) = true := Qj c4
    clear c4
    by_cases c5 : 0 ≤ x6_1
    ·rw [if_pos c5] at H
     have c5b0 : decide (0 ≤ x6_1) = true := Qj c5
     clear c5
     by_cases c7 : (bt t140 x6_1) = a1
     ·rw [if_pos c7] at H
      have c7b0 : ((bt t140 x6_1) == a1) = true := Qm c7
      have c7b1 : ((bt t140 x6_1) != a1) = false := Qh c7
      clear c7
      obtain rfl := Qn H
      have p6 : 0 ≤ (x6_1 : Int) := Qc (by first|(with_reducible assumption)|assumption)
      have q6 : x6_1 < (t140.size : Int) := Qc (by first|(with_reducible assumption)|assumption)
      have hx6 := bt_at t140 x6_1
      replace p6 := eq_true p6
      replace q6 := eq_true q6
      go_wp2
      go_ret
      exact ⟨by first|rfl|(simp; done)|(simp [*]; done), by repeat (first|exact Drawn0.refl _|apply Drawn0.step)⟩
     ·rw [if_neg c7] at H
      have c7b0 : ((bt t140 x6_1) == a1) = false := Qk c7
      have c7b1 : ((bt t140 x6_1) != a1) = true := Ql c7
      have H' := Q4 H
      clear H
      have p6 : 0 ≤ (x6_1 : Int) := Qc (by first|(with_reducible assumption)|assumption)
      have q6 : x6_1 < (t140.size : Int) := Qc (by first|(with_reducible assumption)|assumption)
      have hx6 := bt_at t140 x6_1
      replace p6 := eq_true p6
      replace q6 := eq_true q6
      go_wp2
      go_roundg k1
      case measure => have := HK1.out; omega
      case rel => exact ⟨(wrap64 (x6_1 + 1)), (by first|rfl|(simp; done)|(simp [*]; done)), H', ⟨by have := HK1.out; omega⟩, by repeat (first|exact Drawn0.refl _|apply Drawn0.step)⟩
    ·rw [if_neg c5] at H
     exact absurd H (by simp)
   ·rw [if_neg c4] at H
    have c4b0 : decide (x6_1 < (t140.size : Int)) = false := decide_eq_false c4
    clear c4
    obtain rfl := Qn H
    go_wp2
    go_ret
    exact ⟨by first|rfl|(simp; done)|(simp [*]; done), by repeat (first|exact Drawn0.refl _|apply Drawn0.step)⟩

/-! ### curtilageref08_register: function 66 -/
def curtilageref08_register.f (a0 : Int) (a1 : Bool) : Option (Bool) := if a0 = 0 then (some true) else (if a1 = true then (if a0 > 0 then (some (decide (a0 < 16))) else (some false)) else (some false))
set_option maxHeartbeats 8000000 in
set_option maxRecDepth 100000 in
theorem curtilageref08_register.calls (a0 : Int) (a1 : Bool) (r : Bool) (w : World) (h : curtilageref08_register.f a0 a1 = some r) :
  Calls Tryz.prog 66 #[.int .i64 a0, .bool a1] w fun e w' => e = .returned (.bool r) ∧ Drawn0 w w' := by
 have H : (if a0 = 0 then (some true) else (if a1 = true then (if a0 > 0 then (some (decide (a0 < 16))) else (some false)) else (some false))) = some r := h
 clear h
 by_cases c3 : a0 = 0
 ·rw [if_pos c3] at H
  have c3b0 : (a0 == 0) = true := Qm c3
  have c3b1 : (a0 != 0) = false := Qh c3
  clear c3
  obtain rfl := Qn H
  go_enter Tryz.func66, Tryz.ntmps66
  go_wp2
  go_ret
  exact ⟨by first|rfl|(simp; done)|(simp [*]; done), by repeat (first|exact Drawn0.refl _|apply Drawn0.step)⟩
 ·rw [if_neg c3] at H
  have c3b0 : (a0 == 0) = false := Qk c3
  have c3b1 : (a0 != 0) = true := Ql c3
  by_cases c4 : a1 = true
  ·subst c4
   rw [if_pos rfl] at H
   by_cases c5 : a0 > 0
   ·rw [if_pos c5] at H
    have c5b0 : decide (0 < a0) = true := Qj c5
    clear c5
    obtain rfl := Qn H
    go_enter Tryz.func66, Tryz.ntmps66
    go_wp2
    go_ret
    exact ⟨by first|rfl|(simp; done)|(simp [*]; done), by repeat (first|exact Drawn0.refl _|apply Drawn0.step)⟩
   ·rw [if_neg c5] at H
    have c5b0 : decide (0 < a0) = false := decide_eq_false c5
    clear c5
    obtain rfl := Qn H
    go_enter Tryz.func66, Tryz.ntmps66
    go_wp2
    go_ret
    exact ⟨by first|rfl|(simp; done)|(simp [*]; done), by repeat (first|exact Drawn0.refl _|apply Drawn0.step)⟩
  ·replace c4 := Bool.eq_false_iff.mpr c4
   subst c4
   rw [if_neg (show ¬ (false = true) by decide)] at H
   obtain rfl := Qn H
   go_enter Tryz.func66, Tryz.ntmps66
   go_wp2
   go_ret
   exact ⟨by first|rfl|(simp; done)|(simp [*]; done), by repeat (first|exact Drawn0.refl _|apply Drawn0.step)⟩

end Go.Proofs.YtbelnkdbghggmaaGreatDoor.X
namespace Go.Proofs.YtbelnkdbghggmaaGreatDoor.X
open Go.RowKit Go.Proofs.YtbelnkdbghggmaaGreatDoorW.PrintWords Go.Proofs.YtbelnkdbghggmaaGreatDoorW.PrintLast

set_option linter.unusedVariables false
set_option linter.unusedSimpArgs false

/-! ### curtilageref08_Fit: function 46 -/
def curtilageref08_Fit.f (k : Nat) (a0_0 : Int) (a0_1 : Int) (a0_2 : Int) (a0_3 : Int) (a0_4 : Int) : Option (Bool) := if a0_0 ≥ 0 then (if a0_0 < 26 then ((curtilageref08_uses.f k a0_0 97).bind fun t142 => ((curtilageref08_register.f a0_1 t142).bind fun t143 => (if t143 = true then ((curtilageref08_uses.f k a0_0 98).bind fun t144 => ((curtilageref08_register.f a0_2 t144).bind fun t145 => (if t145 = true then ((curtilageref08_uses.f k a0_0 99).bind fun t146 => ((curtilageref08_register.f a0_3 t146).bind fun t147 => (if t147 = true then (if a0_4 = 0 then (some true) else ((curtilageref08_uses.f k a0_0 105).bind fun t148 => (some t148))) else (some false)))) else (some false)))) else (some false)))) else (some false)) else (some false)
theorem curtilageref08_Fit.mono : ∀ a0 a1 a2 a3 a4 k, LeO (curtilageref08_Fit.f k a0 a1 a2 a3 a4) (curtilageref08_Fit.f (k + 1) a0 a1 a2 a3 a4) := by
 intro a0 a1 a2 a3 a4 k
 unfold curtilageref08_Fit.f
 repeat' first
  |(with_reducible exact curtilageref08_uses.mono _ _ _)
  |(with_reducible exact LeO.refl _)
  |(with_reducible exact LeO.none _)
  |(with_reducible refine LeO.ite ?_ ?_)
  |(with_reducible refine LeO.bind ?_ (fun _ => ?_))
  |exact curtilageref08_uses.mono _ _ _
  |exact LeO.none _
  |refine LeO.ite ?_ ?_
  |refine LeO.bind ?_ (fun _ => ?_)
def curtilageref08_Fit.T1 : Bool × List (List Nat × List Nat) := (true, [([], []), ([0], [0]), ([1], [1]), ([2], [2]), ([3], [3]), ([4, 3], [3, 4]), ([5, 3], [3, 5]), ([3, 6], [3, 6]), ([7, 3], [7]), ([8], [8]), ([9, 8], [8, 9]), ([8], [8]), ([11, 8], [8, 11]), ([12, 8, 8], [8, 12]), ([10, 13, 13, 8], [8, 10, 13]), ([8, 14], [8, 14]), ([15, 14], [15]), ([16], [16]), ([17, 16], [16, 17]), ([16], [16]), ([19, 16], [16, 19]), ([20, 16, 16], [16, 20]), ([18, 21, 21, 16], [16, 18, 21]), ([16, 22], [16, 22]), ([23, 22], [23]), ([24], [24]), ([25, 24], [24, 25]), ([24], [24]), ([27, 24], [24, 27]), ([28, 24, 24], [24, 28]), ([26, 29, 29, 24], [24, 26, 29]), ([24, 30], [24, 30]), ([31, 30], [31]), ([32], [32]), ([33, 32], [32, 33]), ([34, 32], [32, 34]), ([35, 32, 32], [32, 35]), ([36], [36]), ([37, 36], [36, 37]), ([38, 36, 36], [36, 38]), ([36, 39, 32], [32, 36, 39]), ([32, 40], [32, 40]), ([41, 39, 0, 1, 2, 3, 4, 5, 6, 7, 8, 9, 10, 11, 12, 13, 14, 15, 16, 17, 18, 19, 20, 21, 22, 23, 24, 25, 26, 27, 28, 29, 30, 31, 32, 33, 34, 35, 36, 37, 38, 39, 40, 41], [41])])
def curtilageref08_Fit.B1 : List Nat := [0, 1, 3, 7, 15, 31, 63, 127, 255, 511, 1023, 511, 2559, 6655, 16383, 32767, 65535, 131071, 262143, 131071, 655359, 1703935, 4194303, 8388607, 16777215, 33554431, 67108863, 33554431, 167772159, 436207615, 1073741823, 2147483647, 4294967295, 8589934591, 17179869183, 34359738367, 68719476735, 137438953471, 274877906943, 549755813887, 1099511627775, 2199023255551, 4398046511103]
theorem curtilageref08_Fit.tab1 : rtab .any (opsOf Tryz.f46 1) = curtilageref08_Fit.T1 := by kernel_rfl
theorem curtilageref08_Fit.bits1 : waitsOk curtilageref08_Fit.T1.2 curtilageref08_Fit.B1 = true := by kernel_rfl
set_option maxHeartbeats 8000000 in
set_option maxRecDepth 100000 in
theorem curtilageref08_Fit.calls (k : Nat) (a0_0 : Int) (a0_1 : Int) (a0_2 : Int) (a0_3 : Int) (a0_4 : Int) (r : Bool) (w : World) (h : curtilageref08_Fit.f k a0_0 a0_1 a0_2 a0_3 a0_4 = some r) :
  Calls Tryz.prog 46 #[.agg #[.int .i64 a0_0, .int .i64 a0_1, .int .i64 a0_2, .int .i64 a0_3, .int .i32 a0_4]] w fun e w' => e = .returned (.bool r) ∧ Below w.heap.size w w' := by
 have hu38 := Tryz.underlying38
 have HB := Q4 (Below.refl w.heap.size w)
 have H := h
 unfold curtilageref08_Fit.f at H
 clear h
 have HX := Q4 H
 clear H
 go_enter Tryz.func46, Tryz.ntmps46
 try go_wp2_with (first|((with_reducible refine gate_dst (N := 1) rfl ?_); refine box_event ?hg (N := 1) ?hd (cs := #[.int .i64 a0_0, .int .i64 a0_1, .int .i64 a0_2, .int .i64 a0_3, .int .i32 a0_4]) (t := 38) ?hr ?_; (case hd => rfl); (case hg => rfl); (case hr => first|(go_simp; done)|(go_simp; rfl)); intro gb141 hg w14 hbox hb; have n0_ := Q4 (Qg (by repeat (first|(with_reducible first|exact HB.out|apply Q8|apply Q5|apply Q9)|exact HB.out)) hb); have n1_ := Q4 (hbox); have n2_ := Q4 ((by rw [hg]; exact bZ : w.heap.size ≤ gb141)); have n3_ := Q4 ((by rw [hg]; exact bZ : w.heap.size ≤ gb141)); clear HB; have HB := n0_; have BK141 := n1_; have GW141 := n2_; have GE141 := n3_; clear n0_ n1_ n2_ n3_; clear hb hbox hg))
 have n0_ := Q4 (Qb BK141.out)
 have n1_ := Q4 (Q9 HB.out)
 clear BK141
 clear HB
 have BK141 := n0_
 have HB := n1_
 clear n0_ n1_
 refine start_ (n := 43) (S := fun w' => w'.cell? ⟨gb141, 0, none⟩ = some (.int .i64 a0_0) ∧ w'.cell? ⟨gb141, 1, none⟩ = some (.int .i64 a0_1) ∧ w'.cell? ⟨gb141, 2, none⟩ = some (.int .i64 a0_2) ∧ w'.cell? ⟨gb141, 3, none⟩ = some (.int .i64 a0_3) ∧ w'.cell? ⟨gb141, 4, none⟩ = some (.int .i32 a0_4)) (ds := []) (pm 43 0) (by kernel_rfl) rfl rfl ⟨(Qe BK141.out 0).trans rfl, (Qe BK141.out 1).trans rfl, (Qe BK141.out 2).trans rfl, (Qe BK141.out 3).trans rfl, (Qe BK141.out 4).trans rfl⟩ (fun hHeld => ?_); refine with_tabW curtilageref08_Fit.tab1 curtilageref08_Fit.bits1 (fun HT_ HW_ => ?_)
 generalize w14.drew = w15 at BK141 HB hHeld ⊢
 refine pure_ (i := 0) (N := some 3) (v := ?_) (a' := ?_) (pm 43 1) rfl rfl (Qp HT_.out (by kernel_rfl)) (fun _ _ _ h => h) (Or.inl ⟨by rfl, ?_⟩) ?_ ?_
 rotate_left
 ·intro w'
  go_simp
  with_reducible rfl
 rotate_left
 ·simp only [Act.put, Q1,Q2,Q3, i64_w, i32_w]
  rfl
 refine take_ (i := 1) (N := some 4) (v := ?_) (a' := ?_) (pm 43 2) rfl rfl (take_ofW HT_.out HW_.out (by kernel_rfl)) (fun _ _ _ h => h) (Or.inl ⟨by rfl, ?_⟩) hHeld ?_ ?_
 rotate_left
 ·rintro w' ⟨s0, s1, s2, s3, s4⟩
  go_simp
  with_reducible rfl
 rotate_left
 ·simp only [Act.put, Q1,Q2,Q3, i64_w, i32_w]
  rfl
 have H := HX.out
 clear HX
 by_cases c2 : a0_0 ≥ 0
 ·rw [if_pos c2] at H
  have c2b0 : decide (0 ≤ a0_0) = true := Qj c2
  clear c2
  have HX := Q4 H
  clear H
  refine pure_ (i := 2) (N := some 5) (v := ?_) (a' := ?_) (pm 43 3) rfl rfl (Qp HT_.out (by kernel_rfl)) (fun _ _ _ h => h) (Or.inl ⟨by rfl, ?_⟩) ?_ ?_
  rotate_left
  ·intro w'
   go_simp
   with_reducible rfl
  rotate_left
  ·simp only [Act.put, Q1,Q2,Q3, i64_w, i32_w]
   rfl
  refine pure_ (i := 3) (N := some 6) (v := ?_) (a' := ?_) (pm 43 4) rfl rfl (Qp HT_.out (by kernel_rfl)) (fun _ _ _ h => h) (Or.inl ⟨by rfl, ?_⟩) ?_ ?_
  rotate_left
  ·intro w'
   go_simp
   with_reducible rfl
  rotate_left
  ·simp only [Act.put, Q1,Q2,Q3, i64_w, i32_w]
   rfl
  refine pure_ (i := 4) (N := some 7) (v := ?_) (a' := ?_) (pm 43 5) rfl rfl (Qp HT_.out (by kernel_rfl)) (fun _ _ _ h => h) (Or.inl ⟨by rfl, ?_⟩) ?_ ?_
  rotate_left
  ·intro w'
   go_simp
   with_reducible rfl
  rotate_left
  ·simp only [Act.put, Q1,Q2,Q3, i64_w, i32_w]
   rfl
  refine take_ (i := 5) (N := some 8) (v := ?_) (a' := ?_) (pm 43 6) rfl rfl (take_ofW HT_.out HW_.out (by kernel_rfl)) (fun _ _ _ h => h) (Or.inl ⟨by rfl, ?_⟩) hHeld ?_ ?_
  rotate_left
  ·rintro w' ⟨s0, s1, s2, s3, s4⟩
   go_simp
   with_reducible rfl
  rotate_left
  ·simp only [Act.put, Q1,Q2,Q3, i64_w, i32_w]
   rfl
  refine pure_ (i := 6) (N := some 9) (v := ?_) (a' := ?_) (pm 43 7) rfl rfl (Qp HT_.out (by kernel_rfl)) (fun _ _ _ h => h) (Or.inl ⟨by rfl, ?_⟩) ?_ ?_
  rotate_left
  ·intro w'
   go_simp
   with_reducible rfl
  rotate_left
  ·simp only [Act.put, Q1,Q2,Q3, i64_w, i32_w]
   rfl
  have H := HX.out
  clear HX
  by_cases c3 : a0_0 < 26
  ·rw [if_pos c3] at H
   have c3b0 : decide (a0_0 < 26) = true := Qj c3
   clear c3
   replace H := Qi H
   obtain ⟨t142, A40, H⟩ := H
   try dsimp only at H
   have A4 := Q4 A40
   clear A40
   replace H := Qi H
   obtain ⟨t143, A50, H⟩ := H
   try dsimp only at H
   have A5 := Q4 A50
   clear A50
   have HX := Q4 H
   clear H
   refine pure_ (i := 7) (N := some 10) (v := ?_) (a' := ?_) (pm 43 8) rfl rfl (Qp HT_.out (by kernel_rfl)) (fun _ _ _ h => h) (Or.inl ⟨by rfl, ?_⟩) ?_ ?_
   rotate_left
   ·intro w'
    go_simp
    with_reducible rfl
   rotate_left
   ·simp only [Act.put, Q1,Q2,Q3, i64_w, i32_w]
    rfl
   refine pure_ (i := 8) (N := some 11) (v := ?_) (a' := ?_) (pm 43 9) rfl rfl (Qp HT_.out (by kernel_rfl)) (fun _ _ _ h => h) (Or.inl ⟨by rfl, ?_⟩) ?_ ?_
   rotate_left
   ·intro w'
    go_simp
    with_reducible rfl
   rotate_left
   ·simp only [Act.put, Q1,Q2,Q3, i64_w, i32_w]
    rfl
   refine pure_ (i := 9) (N := some 12) (v := ?_) (a' := ?_) (pm 43 10) rfl rfl (Qp HT_.out (by kernel_rfl)) (fun _ _ _ h => h) (Or.inl ⟨by rfl, ?_⟩) ?_ ?_
   rotate_left
   ·intro w'
    go_simp
    with_reducible rfl
   rotate_left
   ·simp only [Act.put, Q1,Q2,Q3, i64_w, i32_w]
    rfl
   refine pure_ (i := 11) (N := some 14) (v := ?_) (a' := ?_) #[true,true,true,true,true,true,true,true,true,true,false,true,false,false,false,false,false,false,false,false,false,false,false,false,false,false,false,false,false,false,false,false,false,false,false,false,false,false,false,false,false,false,false] rfl rfl (Qp HT_.out (by kernel_rfl)) (fun _ _ _ h => h) (Or.inl ⟨by rfl, ?_⟩) ?_ ?_
   rotate_left
   ·intro w'
    go_simp
    with_reducible rfl
   rotate_left
   ·simp only [Act.put, Q1,Q2,Q3, i64_w, i32_w]
    rfl
   refine take_ (i := 10) (N := some 13) (v := ?_) (a' := ?_) (pm 43 12) rfl rfl (take_ofW HT_.out HW_.out (by kernel_rfl)) (fun _ _ _ h => h) (Or.inl ⟨by rfl, ?_⟩) hHeld ?_ ?_
   rotate_left
   ·rintro w' ⟨s0, s1, s2, s3, s4⟩
    go_simp
    with_reducible rfl
   rotate_left
   ·simp only [Act.put, Q1,Q2,Q3, i64_w, i32_w]
    rfl
   refine take_ (i := 12) (N := some 15) (v := ?_) (a' := ?_) (pm 43 13) rfl rfl (take_ofW HT_.out HW_.out (by kernel_rfl)) (fun _ _ _ h => h) (Or.inl ⟨by rfl, ?_⟩) hHeld ?_ ?_
   rotate_left
   ·rintro w' ⟨s0, s1, s2, s3, s4⟩
    go_simp
    with_reducible rfl
   rotate_left
   ·simp only [Act.put, Q1,Q2,Q3, i64_w, i32_w]
    rfl
   refine one_ (i := 13) (N := some 16) (pm 43 14) rfl rfl (one_of HT_.out (by kernel_rfl)) (by decide) (fun K hK => ?_)
   refine goes_ Tryz.func61 (by kernel_rfl) rfl #[.int .i64 a0_0, .int .u8 97] (by rfl) rfl rfl (by (try simp only [List.map_toArray, List.map_cons, List.map_nil]); first | done|rfl|(simp only [List.length_drop, List.length_take]; rfl)) ?_
   with_reducible refine (curtilageref08_uses.calls k a0_0 97 t142 _ A4.out).mono ?_
   rintro e w' ⟨rfl, ⟨nd, rfl⟩⟩
   refine ⟨_, rfl, ?_⟩
   refine hK.out _ _ ⟨(Qe BK141.out 0).trans rfl, (Qe BK141.out 1).trans rfl, (Qe BK141.out 2).trans rfl, (Qe BK141.out 3).trans rfl, (Qe BK141.out 4).trans rfl⟩ (fun hHeld => ?_)
   clear hK K
   refine norm_ (a' := ?_) ?_ ?_
   rotate_left
   ·show Act.put _ (some 16) _ = _
    simp only [Act.put, Q1,Q2,Q3, i64_w, i32_w]
    rfl
   refine one_ (i := 14) (N := some 17) (pm 43 15) rfl rfl (one_of HT_.out (by kernel_rfl)) (by decide) (fun K hK => ?_)
   refine goes_ Tryz.func66 (by kernel_rfl) rfl #[.int .i64 a0_1, .bool t142] (by rfl) rfl rfl (by (try simp only [List.map_toArray, List.map_cons, List.map_nil]); first | done|rfl|(simp only [List.length_drop, List.length_take]; rfl)) ?_
   have H := HX.out
   clear HX
   by_cases c6 : t143 = true
   ·subst c6
    rw [if_pos rfl] at H
    replace H := Qi H
    obtain ⟨t144, A70, H⟩ := H
    try dsimp only at H
    have A7 := Q4 A70
    clear A70
    replace H := Qi H
    obtain ⟨t145, A80, H⟩ := H
    try dsimp only at H
    have A8 := Q4 A80
    clear A80
    have HX := Q4 H
    clear H
    with_reducible refine (curtilageref08_register.calls a0_1 t142 true _ A5.out).mono ?_
    rintro e w' ⟨rfl, ⟨nd, rfl⟩⟩
    refine ⟨_, rfl, ?_⟩
    refine hK.out _ _ ⟨(Qe BK141.out 0).trans rfl, (Qe BK141.out 1).trans rfl, (Qe BK141.out 2).trans rfl, (Qe BK141.out 3).trans rfl, (Qe BK141.out 4).trans rfl⟩ (fun hHeld => ?_)
    clear hK K
    refine norm_ (a' := ?_) ?_ ?_
    rotate_left
    ·show Act.put _ (some 17) _ = _
     simp only [Act.put, Q1,Q2,Q3, i64_w, i32_w]
     rfl
    refine pure_ (i := 15) (N := some 18) (v := ?_) (a' := ?_) (pm 43 16) rfl rfl (Qp HT_.out (by kernel_rfl)) (fun _ _ _ h => h) (Or.inl ⟨by rfl, ?_⟩) ?_ ?_
    rotate_left
    ·intro w'
     go_simp
     with_reducible rfl
    rotate_left
    ·simp only [Act.put, Q1,Q2,Q3, i64_w, i32_w]
     rfl
    refine pure_ (i := 16) (N := some 19) (v := ?_) (a' := ?_) (pm 43 17) rfl rfl (Qp HT_.out (by kernel_rfl)) (fun _ _ _ h => h) (Or.inl ⟨by rfl, ?_⟩) ?_ ?_
    rotate_left
    ·intro w'
     go_simp
     with_reducible rfl
    rotate_left
    ·simp only [Act.put, Q1,Q2,Q3, i64_w, i32_w]
     rfl
    refine pure_ (i := 17) (N := some 20) (v := ?_) (a' := ?_) (pm 43 18) rfl rfl (Qp HT_.out (by kernel_rfl)) (fun _ _ _ h => h) (Or.inl ⟨by rfl, ?_⟩) ?_ ?_
    rotate_left
    ·intro w'
     go_simp
     with_reducible rfl
    rotate_left
    ·simp only [Act.put, Q1,Q2,Q3, i64_w, i32_w]
     rfl
    refine pure_ (i := 19) (N := some 22) (v := ?_) (a' := ?_) #[true,true,true,true,true,true,true,true,true,true,true,true,true,true,true,true,true,true,false,true,false,false,false,false,false,false,false,false,false,false,false,false,false,false,false,false,false,false,false,false,false,false,false] rfl rfl (Qp HT_.out (by kernel_rfl)) (fun _ _ _ h => h) (Or.inl ⟨by rfl, ?_⟩) ?_ ?_
    rotate_left
    ·intro w'
     go_simp
     with_reducible rfl
    rotate_left
    ·simp only [Act.put, Q1,Q2,Q3, i64_w, i32_w]
     rfl
    refine take_ (i := 18) (N := some 21) (v := ?_) (a' := ?_) (pm 43 20) rfl rfl (take_ofW HT_.out HW_.out (by kernel_rfl)) (fun _ _ _ h => h) (Or.inl ⟨by rfl, ?_⟩) hHeld ?_ ?_
    rotate_left
    ·rintro w' ⟨s0, s1, s2, s3, s4⟩
     go_simp
     with_reducible rfl
    rotate_left
    ·simp only [Act.put, Q1,Q2,Q3, i64_w, i32_w]
     rfl
    refine take_ (i := 20) (N := some 23) (v := ?_) (a' := ?_) (pm 43 21) rfl rfl (take_ofW HT_.out HW_.out (by kernel_rfl)) (fun _ _ _ h => h) (Or.inl ⟨by rfl, ?_⟩) hHeld ?_ ?_
    rotate_left
    ·rintro w' ⟨s0, s1, s2, s3, s4⟩
     go_simp
     with_reducible rfl
    rotate_left
    ·simp only [Act.put, Q1,Q2,Q3, i64_w, i32_w]
     rfl
    refine one_ (i := 21) (N := some 24) (pm 43 22) rfl rfl (one_of HT_.out (by kernel_rfl)) (by decide) (fun K hK => ?_)
    refine goes_ Tryz.func61 (by kernel_rfl) rfl #[.int .i64 a0_0, .int .u8 98] (by rfl) rfl rfl (by (try simp only [List.map_toArray, List.map_cons, List.map_nil]); first | done|rfl|(simp only [List.length_drop, List.length_take]; rfl)) ?_
    with_reducible refine (curtilageref08_uses.calls k a0_0 98 t144 _ A7.out).mono ?_
    rintro e w' ⟨rfl, ⟨nd, rfl⟩⟩
    refine ⟨_, rfl, ?_⟩
    refine hK.out _ _ ⟨(Qe BK141.out 0).trans rfl, (Qe BK141.out 1).trans rfl, (Qe BK141.out 2).trans rfl, (Qe BK141.out 3).trans rfl, (Qe BK141.out 4).trans rfl⟩ (fun hHeld => ?_)
    clear hK K
    refine norm_ (a' := ?_) ?_ ?_
    rotate_left
    ·show Act.put _ (some 24) _ = _
     simp only [Act.put, Q1,Q2,Q3, i64_w, i32_w]
     rfl
    refine one_ (i := 22) (N := some 25) (pm 43 23) rfl rfl (one_of HT_.out (by kernel_rfl)) (by decide) (fun K hK => ?_)
    refine goes_ Tryz.func66 (by kernel_rfl) rfl #[.int .i64 a0_2, .bool t144] (by rfl) rfl rfl (by (try simp only [List.map_toArray, List.map_cons, List.map_nil]); first | done|rfl|(simp only [List.length_drop, List.length_take]; rfl)) ?_
    have H := HX.out
    clear HX
    by_cases c9 : t145 = true
    ·subst c9
     rw [if_pos rfl] at H
     replace H := Qi H
     obtain ⟨t146, A100, H⟩ := H
     try dsimp only at H
     have A10 := Q4 A100
     clear A100
     replace H := Qi H
     obtain ⟨t147, A110, H⟩ := H
     try dsimp only at H
     have A11 := Q4 A110
     clear A110
     have HX := Q4 H
     clear H
     with_reducible refine (curtilageref08_register.calls a0_2 t144 true _ A8.out).mono ?_
     rintro e w' ⟨rfl, ⟨nd, rfl⟩⟩
     refine ⟨_, rfl, ?_⟩
     refine hK.out _ _ ⟨(Qe BK141.out 0).trans rfl, (Qe BK141.out 1).trans rfl, (Qe BK141.out 2).trans rfl, (Qe BK141.out 3).trans rfl, (Qe BK141.out 4).trans rfl⟩ (fun hHeld => ?_)
     clear hK K
     refine norm_ (a' := ?_) ?_ ?_
     rotate_left
     ·show Act.put _ (some 25) _ = _
      simp only [Act.put, Q1,Q2,Q3, i64_w, i32_w]
      rfl
     refine pure_ (i := 23) (N := some 26) (v := ?_) (a' := ?_) (pm 43 24) rfl rfl (Qp HT_.out (by kernel_rfl)) (fun _ _ _ h => h) (Or.inl ⟨by rfl, ?_⟩) ?_ ?_
     rotate_left
     ·intro w'
      go_simp
      with_reducible rfl
     rotate_left
     ·simp only [Act.put, Q1,Q2,Q3, i64_w, i32_w]
      rfl
     refine pure_ (i := 24) (N := some 27) (v := ?_) (a' := ?_) (pm 43 25) rfl rfl (Qp HT_.out (by kernel_rfl)) (fun _ _ _ h => h) (Or.inl ⟨by rfl, ?_⟩) ?_ ?_
     rotate_left
     ·intro w'
      go_simp
      with_reducible rfl
     rotate_left
     ·simp only [Act.put, Q1,Q2,Q3, i64_w, i32_w]
      rfl
     refine pure_ (i := 25) (N := some 28) (v := ?_) (a' := ?_) (pm 43 26) rfl rfl (Qp HT_.out (by kernel_rfl)) (fun _ _ _ h => h) (Or.inl ⟨by rfl, ?_⟩) ?_ ?_
     rotate_left
     ·intro w'
      go_simp
      with_reducible rfl
     rotate_left
     ·simp only [Act.put, Q1,Q2,Q3, i64_w, i32_w]
      rfl
     refine pure_ (i := 27) (N := some 30) (v := ?_) (a' := ?_) #[true,true,true,true,true,true,true,true,true,true,true,true,true,true,true,true,true,true,true,true,true,true,true,true,true,true,false,true,false,false,false,false,false,false,false,false,false,false,false,false,false,false,false] rfl rfl (Qp HT_.out (by kernel_rfl)) (fun _ _ _ h => h) (Or.inl ⟨by rfl, ?_⟩) ?_ ?_
     rotate_left
     ·intro w'
      go_simp
      with_reducible rfl
     rotate_left
     ·simp only [Act.put, Q1,Q2,Q3, i64_w, i32_w]
      rfl
     refine take_ (i := 26) (N := some 29) (v := ?_) (a' := ?_) (pm 43 28) rfl rfl (take_ofW HT_.out HW_.out (by kernel_rfl)) (fun _ _ _ h => h) (Or.inl ⟨by rfl, ?_⟩) hHeld ?_ ?_
     rotate_left
     ·rintro w' ⟨s0, s1, s2, s3, s4⟩
      go_simp
      with_reducible rfl
     rotate_left
     ·simp only [Act.put, Q1,Q2,Q3, i64_w, i32_w]
      rfl
     refine take_ (i := 28) (N := some 31) (v := ?_) (a' := ?_) (pm 43 29) rfl rfl (take_ofW HT_.out HW_.out (by kernel_rfl)) (fun _ _ _ h => h) (Or.inl ⟨by rfl, ?_⟩) hHeld ?_ ?_
     rotate_left
     ·rintro w' ⟨s0, s1, s2, s3, s4⟩
      go_simp
      with_reducible rfl
     rotate_left
     ·simp only [Act.put, Q1,Q2,Q3, i64_w, i32_w]
      rfl
     refine one_ (i := 29) (N := some 32) (pm 43 30) rfl rfl (one_of HT_.out (by kernel_rfl)) (by decide) (fun K hK => ?_)
     refine goes_ Tryz.func61 (by kernel_rfl) rfl #[.int .i64 a0_0, .int .u8 99] (by rfl) rfl rfl (by (try simp only [List.map_toArray, List.map_cons, List.map_nil]); first | done|rfl|(simp only [List.length_drop, List.length_take]; rfl)) ?_
     with_reducible refine (curtilageref08_uses.calls k a0_0 99 t146 _ A10.out).mono ?_
     rintro e w' ⟨rfl, ⟨nd, rfl⟩⟩
     refine ⟨_, rfl, ?_⟩
     refine hK.out _ _ ⟨(Qe BK141.out 0).trans rfl, (Qe BK141.out 1).trans rfl, (Qe BK141.out 2).trans rfl, (Qe BK141.out 3).trans rfl, (Qe BK141.out 4).trans rfl⟩ (fun hHeld => ?_)
     clear hK K
     refine norm_ (a' := ?_) ?_ ?_
     rotate_left
     ·show Act.put _ (some 32) _ = _
      simp only [Act.put, Q1,Q2,Q3, i64_w, i32_w]
      rfl
     refine one_ (i := 30) (N := some 33) (pm 43 31) rfl rfl (one_of HT_.out (by kernel_rfl)) (by decide) (fun K hK => ?_)
     refine goes_ Tryz.func66 (by kernel_rfl) rfl #[.int .i64 a0_3, .bool t146] (by rfl) rfl rfl (by (try simp only [List.map_toArray, List.map_cons, List.map_nil]); first | done|rfl|(simp only [List.length_drop, List.length_take]; rfl)) ?_
     have H := HX.out
     clear HX
     by_cases c12 : t147 = true
     ·subst c12
      rw [if_pos rfl] at H
      have HX := Q4 H
      clear H
      with_reducible refine (curtilageref08_register.calls a0_3 t146 true _ A11.out).mono ?_
      rintro e w' ⟨rfl, ⟨nd, rfl⟩⟩
      refine ⟨_, rfl, ?_⟩
      refine hK.out _ _ ⟨(Qe BK141.out 0).trans rfl, (Qe BK141.out 1).trans rfl, (Qe BK141.out 2).trans rfl, (Qe BK141.out 3).trans rfl, (Qe BK141.out 4).trans rfl⟩ (fun hHeld => ?_)
      clear hK K
      refine norm_ (a' := ?_) ?_ ?_
      rotate_left
      ·show Act.put _ (some 33) _ = _
       simp only [Act.put, Q1,Q2,Q3, i64_w, i32_w]
       rfl
      refine pure_ (i := 31) (N := some 34) (v := ?_) (a' := ?_) (pm 43 32) rfl rfl (Qp HT_.out (by kernel_rfl)) (fun _ _ _ h => h) (Or.inl ⟨by rfl, ?_⟩) ?_ ?_
      rotate_left
      ·intro w'
       go_simp
       with_reducible rfl
      rotate_left
      ·simp only [Act.put, Q1,Q2,Q3, i64_w, i32_w]
       rfl
      refine pure_ (i := 32) (N := some 35) (v := ?_) (a' := ?_) (pm 43 33) rfl rfl (Qp HT_.out (by kernel_rfl)) (fun _ _ _ h => h) (Or.inl ⟨by rfl, ?_⟩) ?_ ?_
      rotate_left
      ·intro w'
       go_simp
       with_reducible rfl
      rotate_left
      ·simp only [Act.put, Q1,Q2,Q3, i64_w, i32_w]
       rfl
      refine pure_ (i := 33) (N := some 36) (v := ?_) (a' := ?_) (pm 43 34) rfl rfl (Qp HT_.out (by kernel_rfl)) (fun _ _ _ h => h) (Or.inl ⟨by rfl, ?_⟩) ?_ ?_
      rotate_left
      ·intro w'
       go_simp
       with_reducible rfl
      rotate_left
      ·simp only [Act.put, Q1,Q2,Q3, i64_w, i32_w]
       rfl
      refine take_ (i := 34) (N := some 37) (v := ?_) (a' := ?_) (pm 43 35) rfl rfl (take_ofW HT_.out HW_.out (by kernel_rfl)) (fun _ _ _ h => h) (Or.inl ⟨by rfl, ?_⟩) hHeld ?_ ?_
      rotate_left
      ·rintro w' ⟨s0, s1, s2, s3, s4⟩
       go_simp
       with_reducible rfl
      rotate_left
      ·simp only [Act.put, Q1,Q2,Q3, i64_w, i32_w]
       rfl
      have H := HX.out
      clear HX
      by_cases c13 : a0_4 = 0
      ·rw [if_pos c13] at H
       have c13b0 : (a0_4 == 0) = true := Qm c13
       have c13b1 : (a0_4 != 0) = false := Qh c13
       clear c13
       obtain rfl := Qn H
       refine pure_ (i := 35) (N := some 38) (v := ?_) (a' := ?_) (pm 43 36) rfl rfl (Qp HT_.out (by kernel_rfl)) (fun _ _ _ h => h) (Or.inl ⟨by rfl, ?_⟩) ?_ ?_
       rotate_left
       ·intro w'
        go_simp
        with_reducible rfl
       rotate_left
       ·simp only [Act.put, Q1,Q2,Q3, i64_w, i32_w]
        rfl
       refine pure_ (i := 36) (N := some 39) (v := ?_) (a' := ?_) (pm 43 37) rfl rfl (Qp HT_.out (by kernel_rfl)) (fun _ _ _ h => h) (Or.inl ⟨by rfl, ?_⟩) ?_ ?_
       rotate_left
       ·intro w'
        go_simp
        with_reducible rfl
       rotate_left
       ·simp only [Act.put, Q1,Q2,Q3, i64_w, i32_w]
        rfl
       refine pure_ (i := 37) (N := some 40) (v := undef) (a' := ?_) (pm 43 38) rfl rfl (Qp HT_.out (by kernel_rfl)) (fun _ _ _ h => h) (Or.inr ⟨by rfl, rfl⟩) ?_ ?_
       rotate_left
       ·simp only [Act.put, Q1,Q2,Q3, i64_w, i32_w]
        rfl
       refine pure_ (i := 38) (N := some 41) (v := undef) (a' := ?_) (pm 43 39) rfl rfl (Qp HT_.out (by kernel_rfl)) (fun _ _ _ h => h) (Or.inr ⟨by rfl, rfl⟩) ?_ ?_
       rotate_left
       ·simp only [Act.put, Q1,Q2,Q3, i64_w, i32_w]
        rfl
       refine pure_ (i := 39) (N := some 42) (v := undef) (a' := ?_) (pm 43 40) rfl rfl (Qp HT_.out (by kernel_rfl)) (fun _ _ _ h => h) (Or.inr ⟨by rfl, rfl⟩) ?_ ?_
       rotate_left
       ·simp only [Act.put, Q1,Q2,Q3, i64_w, i32_w]
        rfl
       refine pure_ (i := 40) (N := some 43) (v := ?_) (a' := ?_) (pm 43 41) rfl rfl (Qp HT_.out (by kernel_rfl)) (fun _ _ _ h => h) (Or.inl ⟨by rfl, ?_⟩) ?_ ?_
       rotate_left
       ·intro w'
        go_simp
        with_reducible rfl
       rotate_left
       ·simp only [Act.put, Q1,Q2,Q3, i64_w, i32_w]
        rfl
       refine pure_ (i := 41) (N := some 44) (v := ?_) (a' := ?_) (pm 43 42) rfl rfl (Qp HT_.out (by kernel_rfl)) (fun _ _ _ h => h) (Or.inl ⟨by rfl, ?_⟩) ?_ ?_
       rotate_left
       ·intro w'
        go_simp
        with_reducible rfl
       rotate_left
       ·simp only [Act.put, Q1,Q2,Q3, i64_w, i32_w]
        rfl
       refine pure_ (i := 42) (N := some 2) (v := ?_) (a' := ?_) (pm 43 43) rfl rfl (Qp HT_.out (by kernel_rfl)) (fun _ _ _ h => h) (Or.inl ⟨by rfl, ?_⟩) ?_ ?_
       rotate_left
       ·intro w'
        go_simp
        with_reducible rfl
       rotate_left
       ·simp only [Act.put, Q1,Q2,Q3, i64_w, i32_w]
        rfl
       refine done_ (done_of HT_.out (by kernel_rfl)) ?_
       try go_wp2
       go_ret
       exact ⟨by first|rfl|(simp [errW_none, errW_some] <;> rfl)|(simp [*, errW_none, errW_some] <;> rfl), by repeat (first|(with_reducible first|exact HB.out|apply Q8|apply Q5|apply Q9|refine Q6 ?_ GE141.out)|exact HB.out)⟩
      ·rw [if_neg c13] at H
       have c13b0 : (a0_4 == 0) = false := Qk c13
       have c13b1 : (a0_4 != 0) = true := Ql c13
       replace H := Qi H
       obtain ⟨t148, A160, H⟩ := H
       replace H : (some t148) = some r := H
       have A16 := Q4 A160
       clear A160
       obtain rfl := Qn H
       refine pure_ (i := 35) (N := some 38) (v := ?_) (a' := ?_) (pm 43 36) rfl rfl (Qp HT_.out (by kernel_rfl)) (fun _ _ _ h => h) (Or.inl ⟨by rfl, ?_⟩) ?_ ?_
       rotate_left
       ·intro w'
        go_simp
        with_reducible rfl
       rotate_left
       ·simp only [Act.put, Q1,Q2,Q3, i64_w, i32_w]
        rfl
       refine pure_ (i := 36) (N := some 39) (v := ?_) (a' := ?_) (pm 43 37) rfl rfl (Qp HT_.out (by kernel_rfl)) (fun _ _ _ h => h) (Or.inl ⟨by rfl, ?_⟩) ?_ ?_
       rotate_left
       ·intro w'
        go_simp
        with_reducible rfl
       rotate_left
       ·simp only [Act.put, Q1,Q2,Q3, i64_w, i32_w]
        rfl
       refine pure_ (i := 37) (N := some 40) (v := ?_) (a' := ?_) (pm 43 38) rfl rfl (Qp HT_.out (by kernel_rfl)) (fun _ _ _ h => h) (Or.inl ⟨by rfl, ?_⟩) ?_ ?_
       rotate_left
       ·intro w'
        go_simp
        with_reducible rfl
       rotate_left
       ·simp only [Act.put, Q1,Q2,Q3, i64_w, i32_w]
        rfl
       refine take_ (i := 38) (N := some 41) (v := ?_) (a' := ?_) (pm 43 39) rfl rfl (take_ofW HT_.out HW_.out (by kernel_rfl)) (fun _ _ _ h => h) (Or.inl ⟨by rfl, ?_⟩) hHeld ?_ ?_
       rotate_left
       ·rintro w' ⟨s0, s1, s2, s3, s4⟩
        go_simp
        with_reducible rfl
       rotate_left
       ·simp only [Act.put, Q1,Q2,Q3, i64_w, i32_w]
        rfl
       refine one_ (i := 39) (N := some 42) (pm 43 40) rfl rfl (one_of HT_.out (by kernel_rfl)) (by decide) (fun K hK => ?_)
       refine goes_ Tryz.func61 (by kernel_rfl) rfl #[.int .i64 a0_0, .int .u8 105] (by rfl) rfl rfl (by (try simp only [List.map_toArray, List.map_cons, List.map_nil]); first | done|rfl|(simp only [List.length_drop, List.length_take]; rfl)) ?_
       with_reducible refine (curtilageref08_uses.calls k a0_0 105 t148 _ A16.out).mono ?_
       rintro e w' ⟨rfl, ⟨nd, rfl⟩⟩
       refine ⟨_, rfl, ?_⟩
       refine hK.out _ _ ⟨(Qe BK141.out 0).trans rfl, (Qe BK141.out 1).trans rfl, (Qe BK141.out 2).trans rfl, (Qe BK141.out 3).trans rfl, (Qe BK141.out 4).trans rfl⟩ (fun hHeld => ?_)
       clear hK K
       refine norm_ (a' := ?_) ?_ ?_
       rotate_left
       ·show Act.put _ (some 42) _ = _
        simp only [Act.put, Q1,Q2,Q3, i64_w, i32_w]
        rfl
       refine pure_ (i := 40) (N := some 43) (v := ?_) (a' := ?_) (pm 43 41) rfl rfl (Qp HT_.out (by kernel_rfl)) (fun _ _ _ h => h) (Or.inl ⟨by rfl, ?_⟩) ?_ ?_
       rotate_left
       ·intro w'
        go_simp
        with_reducible rfl
       rotate_left
       ·simp only [Act.put, Q1,Q2,Q3, i64_w, i32_w]
        rfl
       refine pure_ (i := 41) (N := some 44) (v := ?_) (a' := ?_) (pm 43 42) rfl rfl (Qp HT_.out (by kernel_rfl)) (fun _ _ _ h => h) (Or.inl ⟨by rfl, ?_⟩) ?_ ?_
       rotate_left
       ·intro w'
        go_simp
        with_reducible rfl
       rotate_left
       ·simp only [Act.put, Q1,Q2,Q3, i64_w, i32_w]
        rfl
       refine pure_ (i := 42) (N := some 2) (v := ?_) (a' := ?_) (pm 43 43) rfl rfl (Qp HT_.out (by kernel_rfl)) (fun _ _ _ h => h) (Or.inl ⟨by rfl, ?_⟩) ?_ ?_
       rotate_left
       ·intro w'
        go_simp
        with_reducible rfl
       rotate_left
       ·simp only [Act.put, Q1,Q2,Q3, i64_w, i32_w]
        rfl
       refine done_ (done_of HT_.out (by kernel_rfl)) ?_
       try go_wp2
       go_ret
       exact ⟨by first|rfl|(simp [errW_none, errW_some] <;> rfl)|(simp [*, errW_none, errW_some] <;> rfl), by repeat (first|(with_reducible first|exact HB.out|apply Q8|apply Q5|apply Q9|refine Q6 ?_ GE141.out)|exact HB.out)⟩
     ·replace c12 := Bool.eq_false_iff.mpr c12
      subst c12
      rw [if_neg (show ¬ (false = true) by decide)] at H
      obtain rfl := Qn H
      with_reducible refine (curtilageref08_register.calls a0_3 t146 false _ A11.out).mono ?_
      rintro e w' ⟨rfl, ⟨nd, rfl⟩⟩
      refine ⟨_, rfl, ?_⟩
      refine hK.out _ _ ⟨(Qe BK141.out 0).trans rfl, (Qe BK141.out 1).trans rfl, (Qe BK141.out 2).trans rfl, (Qe BK141.out 3).trans rfl, (Qe BK141.out 4).trans rfl⟩ (fun hHeld => ?_)
      clear hK K
      refine norm_ (a' := ?_) ?_ ?_
      rotate_left
      ·show Act.put _ (some 33) _ = _
       simp only [Act.put, Q1,Q2,Q3, i64_w, i32_w]
       rfl
      refine pure_ (i := 31) (N := some 34) (v := ?_) (a' := ?_) (pm 43 32) rfl rfl (Qp HT_.out (by kernel_rfl)) (fun _ _ _ h => h) (Or.inl ⟨by rfl, ?_⟩) ?_ ?_
      rotate_left
      ·intro w'
       go_simp
       with_reducible rfl
      rotate_left
      ·simp only [Act.put, Q1,Q2,Q3, i64_w, i32_w]
       rfl
      refine pure_ (i := 32) (N := some 35) (v := ?_) (a' := ?_) (pm 43 33) rfl rfl (Qp HT_.out (by kernel_rfl)) (fun _ _ _ h => h) (Or.inl ⟨by rfl, ?_⟩) ?_ ?_
      rotate_left
      ·intro w'
       go_simp
       with_reducible rfl
      rotate_left
      ·simp only [Act.put, Q1,Q2,Q3, i64_w, i32_w]
       rfl
      refine pure_ (i := 33) (N := some 36) (v := undef) (a' := ?_) (pm 43 34) rfl rfl (Qp HT_.out (by kernel_rfl)) (fun _ _ _ h => h) (Or.inr ⟨by rfl, rfl⟩) ?_ ?_
      rotate_left
      ·simp only [Act.put, Q1,Q2,Q3, i64_w, i32_w]
       rfl
      refine pure_ (i := 34) (N := some 37) (v := undef) (a' := ?_) (pm 43 35) rfl rfl (Qp HT_.out (by kernel_rfl)) (fun _ _ _ h => h) (Or.inr ⟨by rfl, rfl⟩) ?_ ?_
      rotate_left
      ·simp only [Act.put, Q1,Q2,Q3, i64_w, i32_w]
       rfl
      refine pure_ (i := 35) (N := some 38) (v := undef) (a' := ?_) (pm 43 36) rfl rfl (Qp HT_.out (by kernel_rfl)) (fun _ _ _ h => h) (Or.inr ⟨by rfl, rfl⟩) ?_ ?_
      rotate_left
      ·simp only [Act.put, Q1,Q2,Q3, i64_w, i32_w]
       rfl
      refine pure_ (i := 36) (N := some 39) (v := undef) (a' := ?_) (pm 43 37) rfl rfl (Qp HT_.out (by kernel_rfl)) (fun _ _ _ h => h) (Or.inr ⟨by rfl, rfl⟩) ?_ ?_
      rotate_left
      ·simp only [Act.put, Q1,Q2,Q3, i64_w, i32_w]
       rfl
      refine pure_ (i := 37) (N := some 40) (v := undef) (a' := ?_) (pm 43 38) rfl rfl (Qp HT_.out (by kernel_rfl)) (fun _ _ _ h => h) (Or.inr ⟨by rfl, rfl⟩) ?_ ?_
      rotate_left
      ·simp only [Act.put, Q1,Q2,Q3, i64_w, i32_w]
       rfl
      refine pure_ (i := 38) (N := some 41) (v := undef) (a' := ?_) (pm 43 39) rfl rfl (Qp HT_.out (by kernel_rfl)) (fun _ _ _ h => h) (Or.inr ⟨by rfl, rfl⟩) ?_ ?_
      rotate_left
      ·simp only [Act.put, Q1,Q2,Q3, i64_w, i32_w]
       rfl
      refine pure_ (i := 39) (N := some 42) (v := undef) (a' := ?_) (pm 43 40) rfl rfl (Qp HT_.out (by kernel_rfl)) (fun _ _ _ h => h) (Or.inr ⟨by rfl, rfl⟩) ?_ ?_
      rotate_left
      ·simp only [Act.put, Q1,Q2,Q3, i64_w, i32_w]
       rfl
      refine pure_ (i := 40) (N := some 43) (v := undef) (a' := ?_) (pm 43 41) rfl rfl (Qp HT_.out (by kernel_rfl)) (fun _ _ _ h => h) (Or.inr ⟨by rfl, rfl⟩) ?_ ?_
      rotate_left
      ·simp only [Act.put, Q1,Q2,Q3, i64_w, i32_w]
       rfl
      refine pure_ (i := 41) (N := some 44) (v := ?_) (a' := ?_) (pm 43 42) rfl rfl (Qp HT_.out (by kernel_rfl)) (fun _ _ _ h => h) (Or.inl ⟨by rfl, ?_⟩) ?_ ?_
      rotate_left
      ·intro w'
       go_simp
       with_reducible rfl
      rotate_left
      ·simp only [Act.put, Q1,Q2,Q3, i64_w, i32_w]
       rfl
      refine pure_ (i := 42) (N := some 2) (v := ?_) (a' := ?_) (pm 43 43) rfl rfl (Qp HT_.out (by kernel_rfl)) (fun _ _ _ h => h) (Or.inl ⟨by rfl, ?_⟩) ?_ ?_
      rotate_left
      ·intro w'
       go_simp
       with_reducible rfl
      rotate_left
      ·simp only [Act.put, Q1,Q2,Q3, i64_w, i32_w]
       rfl
      refine done_ (done_of HT_.out (by kernel_rfl)) ?_
      try go_wp2
      go_ret
      exact ⟨by first|rfl|(simp [errW_none, errW_some] <;> rfl)|(simp [*, errW_none, errW_some] <;> rfl), by repeat (first|(with_reducible first|exact HB.out|apply Q8|apply Q5|apply Q9|refine Q6 ?_ GE141.out)|exact HB.out)⟩
    ·replace c9 := Bool.eq_false_iff.mpr c9
     subst c9
     rw [if_neg (show ¬ (false = true) by decide)] at H
     obtain rfl := Qn H
     with_reducible refine (curtilageref08_register.calls a0_2 t144 false _ A8.out).mono ?_
     rintro e w' ⟨rfl, ⟨nd, rfl⟩⟩
     refine ⟨_, rfl, ?_⟩
     refine hK.out _ _ ⟨(Qe BK141.out 0).trans rfl, (Qe BK141.out 1).trans rfl, (Qe BK141.out 2).trans rfl, (Qe BK141.out 3).trans rfl, (Qe BK141.out 4).trans rfl⟩ (fun hHeld => ?_)
     clear hK K
     refine norm_ (a' := ?_) ?_ ?_
     rotate_left
     ·show Act.put _ (some 25) _ = _
      simp only [Act.put, Q1,Q2,Q3, i64_w, i32_w]
      rfl
     refine pure_ (i := 23) (N := some 26) (v := ?_) (a' := ?_) (pm 43 24) rfl rfl (Qp HT_.out (by kernel_rfl)) (fun _ _ _ h => h) (Or.inl ⟨by rfl, ?_⟩) ?_ ?_
     rotate_left
     ·intro w'
      go_simp
      with_reducible rfl
     rotate_left
     ·simp only [Act.put, Q1,Q2,Q3, i64_w, i32_w]
      rfl
     refine pure_ (i := 24) (N := some 27) (v := ?_) (a' := ?_) (pm 43 25) rfl rfl (Qp HT_.out (by kernel_rfl)) (fun _ _ _ h => h) (Or.inl ⟨by rfl, ?_⟩) ?_ ?_
     rotate_left
     ·intro w'
      go_simp
      with_reducible rfl
     rotate_left
     ·simp only [Act.put, Q1,Q2,Q3, i64_w, i32_w]
      rfl
     refine pure_ (i := 25) (N := some 28) (v := undef) (a' := ?_) (pm 43 26) rfl rfl (Qp HT_.out (by kernel_rfl)) (fun _ _ _ h => h) (Or.inr ⟨by rfl, rfl⟩) ?_ ?_
     rotate_left
     ·simp only [Act.put, Q1,Q2,Q3, i64_w, i32_w]
      rfl
     refine pure_ (i := 26) (N := some 29) (v := undef) (a' := ?_) (pm 43 27) rfl rfl (Qp HT_.out (by kernel_rfl)) (fun _ _ _ h => h) (Or.inr ⟨by rfl, rfl⟩) ?_ ?_
     rotate_left
     ·simp only [Act.put, Q1,Q2,Q3, i64_w, i32_w]
      rfl
     refine pure_ (i := 27) (N := some 30) (v := undef) (a' := ?_) (pm 43 28) rfl rfl (Qp HT_.out (by kernel_rfl)) (fun _ _ _ h => h) (Or.inr ⟨by rfl, rfl⟩) ?_ ?_
     rotate_left
     ·simp only [Act.put, Q1,Q2,Q3, i64_w, i32_w]
      rfl
     refine pure_ (i := 28) (N := some 31) (v := undef) (a' := ?_) (pm 43 29) rfl rfl (Qp HT_.out (by kernel_rfl)) (fun _ _ _ h => h) (Or.inr ⟨by rfl, rfl⟩) ?_ ?_
     rotate_left
     ·simp only [Act.put, Q1,Q2,Q3, i64_w, i32_w]
      rfl
     refine pure_ (i := 29) (N := some 32) (v := undef) (a' := ?_) (pm 43 30) rfl rfl (Qp HT_.out (by kernel_rfl)) (fun _ _ _ h => h) (Or.inr ⟨by rfl, rfl⟩) ?_ ?_
     rotate_left
     ·simp only [Act.put, Q1,Q2,Q3, i64_w, i32_w]
      rfl
     refine pure_ (i := 30) (N := some 33) (v := undef) (a' := ?_) (pm 43 31) rfl rfl (Qp HT_.out (by kernel_rfl)) (fun _ _ _ h => h) (Or.inr ⟨by rfl, rfl⟩) ?_ ?_
     rotate_left
     ·simp only [Act.put, Q1,Q2,Q3, i64_w, i32_w]
      rfl
     refine pure_ (i := 31) (N := some 34) (v := ?_) (a' := ?_) (pm 43 32) rfl rfl (Qp HT_.out (by kernel_rfl)) (fun _ _ _ h => h) (Or.inl ⟨by rfl, ?_⟩) ?_ ?_
     rotate_left
     ·intro w'
      go_simp
      with_reducible rfl
     rotate_left
     ·simp only [Act.put, Q1,Q2,Q3, i64_w, i32_w]
      rfl
     refine pure_ (i := 32) (N := some 35) (v := ?_) (a' := ?_) (pm 43 33) rfl rfl (Qp HT_.out (by kernel_rfl)) (fun _ _ _ h => h) (Or.inl ⟨by rfl, ?_⟩) ?_ ?_
     rotate_left
     ·intro w'
      go_simp
      with_reducible rfl
     rotate_left
     ·simp only [Act.put, Q1,Q2,Q3, i64_w, i32_w]
      rfl
     refine pure_ (i := 33) (N := some 36) (v := undef) (a' := ?_) (pm 43 34) rfl rfl (Qp HT_.out (by kernel_rfl)) (fun _ _ _ h => h) (Or.inr ⟨by rfl, rfl⟩) ?_ ?_
     rotate_left
     ·simp only [Act.put, Q1,Q2,Q3, i64_w, i32_w]
      rfl
     refine pure_ (i := 34) (N := some 37) (v := undef) (a' := ?_) (pm 43 35) rfl rfl (Qp HT_.out (by kernel_rfl)) (fun _ _ _ h => h) (Or.inr ⟨by rfl, rfl⟩) ?_ ?_
     rotate_left
     ·simp only [Act.put, Q1,Q2,Q3, i64_w, i32_w]
      rfl
     refine pure_ (i := 35) (N := some 38) (v := undef) (a' := ?_) (pm 43 36) rfl rfl (Qp HT_.out (by kernel_rfl)) (fun _ _ _ h => h) (Or.inr ⟨by rfl, rfl⟩) ?_ ?_
     rotate_left
     ·simp only [Act.put, Q1,Q2,Q3, i64_w, i32_w]
      rfl
     refine pure_ (i := 36) (N := some 39) (v := undef) (a' := ?_) (pm 43 37) rfl rfl (Qp HT_.out (by kernel_rfl)) (fun _ _ _ h => h) (Or.inr ⟨by rfl, rfl⟩) ?_ ?_
     rotate_left
     ·simp only [Act.put, Q1,Q2,Q3, i64_w, i32_w]
      rfl
     refine pure_ (i := 37) (N := some 40) (v := undef) (a' := ?_) (pm 43 38) rfl rfl (Qp HT_.out (by kernel_rfl)) (fun _ _ _ h => h) (Or.inr ⟨by rfl, rfl⟩) ?_ ?_
     rotate_left
     ·simp only [Act.put, Q1,Q2,Q3, i64_w, i32_w]
      rfl
     refine pure_ (i := 38) (N := some 41) (v := undef) (a' := ?_) (pm 43 39) rfl rfl (Qp HT_.out (by kernel_rfl)) (fun _ _ _ h => h) (Or.inr ⟨by rfl, rfl⟩) ?_ ?_
     rotate_left
     ·simp only [Act.put, Q1,Q2,Q3, i64_w, i32_w]
      rfl
     refine pure_ (i := 39) (N := some 42) (v := undef) (a' := ?_) (pm 43 40) rfl rfl (Qp HT_.out (by kernel_rfl)) (fun _ _ _ h => h) (Or.inr ⟨by rfl, rfl⟩) ?_ ?_
     rotate_left
     ·simp only [Act.put, Q1,Q2,Q3, i64_w, i32_w]
      rfl
     refine pure_ (i := 40) (N := some 43) (v := undef) (a' := ?_) (pm 43 41) rfl rfl (Qp HT_.out (by kernel_rfl)) (fun _ _ _ h => h) (Or.inr ⟨by rfl, rfl⟩) ?_ ?_
     rotate_left
     ·simp only [Act.put, Q1,Q2,Q3, i64_w, i32_w]
      rfl
     refine pure_ (i := 41) (N := some 44) (v := ?_) (a' := ?_) (pm 43 42) rfl rfl (Qp HT_.out (by kernel_rfl)) (fun _ _ _ h => h) (Or.inl ⟨by rfl, ?_⟩) ?_ ?_
     rotate_left
     ·intro w'
      go_simp
      with_reducible rfl
     rotate_left
     ·simp only [Act.put, Q1,Q2,Q3, i64_w, i32_w]
      rfl
     refine pure_ (i := 42) (N := some 2) (v := ?_) (a' := ?_) (pm 43 43) rfl rfl (Qp HT_.out (by kernel_rfl)) (fun _ _ _ h => h) (Or.inl ⟨by rfl, ?_⟩) ?_ ?_
     rotate_left
     ·intro w'
      go_simp
      with_reducible rfl
     rotate_left
     ·simp only [Act.put, Q1,Q2,Q3, i64_w, i32_w]
      rfl
     refine done_ (done_of HT_.out (by kernel_rfl)) ?_
     try go_wp2
     go_ret
     exact ⟨by first|rfl|(simp [errW_none, errW_some] <;> rfl)|(simp [*, errW_none, errW_some] <;> rfl), by repeat (first|(with_reducible first|exact HB.out|apply Q8|apply Q5|apply Q9|refine Q6 ?_ GE141.out)|exact HB.out)⟩
   ·replace c6 := Bool.eq_false_iff.mpr c6
    subst c6
    rw [if_neg (show ¬ (false = true) by decide)] at H
    obtain rfl := Qn H
    with_reducible refine (curtilageref08_register.calls a0_1 t142 false _ A5.out).mono ?_
    rintro e w' ⟨rfl, ⟨nd, rfl⟩⟩
    refine ⟨_, rfl, ?_⟩
    refine hK.out _ _ ⟨(Qe BK141.out 0).trans rfl, (Qe BK141.out 1).trans rfl, (Qe BK141.out 2).trans rfl, (Qe BK141.out 3).trans rfl, (Qe BK141.out 4).trans rfl⟩ (fun hHeld => ?_)
    clear hK K
    refine norm_ (a' := ?_) ?_ ?_
    rotate_left
    ·show Act.put _ (some 17) _ = _
     simp only [Act.put, Q1,Q2,Q3, i64_w, i32_w]
     rfl
    refine pure_ (i := 15) (N := some 18) (v := ?_) (a' := ?_) (pm 43 16) rfl rfl (Qp HT_.out (by kernel_rfl)) (fun _ _ _ h => h) (Or.inl ⟨by rfl, ?_⟩) ?_ ?_
    rotate_left
    ·intro w'
     go_simp
     with_reducible rfl
    rotate_left
    ·simp only [Act.put, Q1,Q2,Q3, i64_w, i32_w]
     rfl
    refine pure_ (i := 16) (N := some 19) (v := ?_) (a' := ?_) (pm 43 17) rfl rfl (Qp HT_.out (by kernel_rfl)) (fun _ _ _ h => h) (Or.inl ⟨by rfl, ?_⟩) ?_ ?_
    rotate_left
    ·intro w'
     go_simp
     with_reducible rfl
    rotate_left
    ·simp only [Act.put, Q1,Q2,Q3, i64_w, i32_w]
     rfl
    refine pure_ (i := 17) (N := some 20) (v := undef) (a' := ?_) (pm 43 18) rfl rfl (Qp HT_.out (by kernel_rfl)) (fun _ _ _ h => h) (Or.inr ⟨by rfl, rfl⟩) ?_ ?_
    rotate_left
    ·simp only [Act.put, Q1,Q2,Q3, i64_w, i32_w]
     rfl
    refine pure_ (i := 18) (N := some 21) (v := undef) (a' := ?_) (pm 43 19) rfl rfl (Qp HT_.out (by kernel_rfl)) (fun _ _ _ h => h) (Or.inr ⟨by rfl, rfl⟩) ?_ ?_
    rotate_left
    ·simp only [Act.put, Q1,Q2,Q3, i64_w, i32_w]
     rfl
    refine pure_ (i := 19) (N := some 22) (v := undef) (a' := ?_) (pm 43 20) rfl rfl (Qp HT_.out (by kernel_rfl)) (fun _ _ _ h => h) (Or.inr ⟨by rfl, rfl⟩) ?_ ?_
    rotate_left
    ·simp only [Act.put, Q1,Q2,Q3, i64_w, i32_w]
     rfl
    refine pure_ (i := 20) (N := some 23) (v := undef) (a' := ?_) (pm 43 21) rfl rfl (Qp HT_.out (by kernel_rfl)) (fun _ _ _ h => h) (Or.inr ⟨by rfl, rfl⟩) ?_ ?_
    rotate_left
    ·simp only [Act.put, Q1,Q2,Q3, i64_w, i32_w]
     rfl
    refine pure_ (i := 21) (N := some 24) (v := undef) (a' := ?_) (pm 43 22) rfl rfl (Qp HT_.out (by kernel_rfl)) (fun _ _ _ h => h) (Or.inr ⟨by rfl, rfl⟩) ?_ ?_
    rotate_left
    ·simp only [Act.put, Q1,Q2,Q3, i64_w, i32_w]
     rfl
    refine pure_ (i := 22) (N := some 25) (v := undef) (a' := ?_) (pm 43 23) rfl rfl (Qp HT_.out (by kernel_rfl)) (fun _ _ _ h => h) (Or.inr ⟨by rfl, rfl⟩) ?_ ?_
    rotate_left
    ·simp only [Act.put, Q1,Q2,Q3, i64_w, i32_w]
     rfl
    refine pure_ (i := 23) (N := some 26) (v := ?_) (a' := ?_) (pm 43 24) rfl rfl (Qp HT_.out (by kernel_rfl)) (fun _ _ _ h => h) (Or.inl ⟨by rfl, ?_⟩) ?_ ?_
    rotate_left
    ·intro w'
     go_simp
     with_reducible rfl
    rotate_left
    ·simp only [Act.put, Q1,Q2,Q3, i64_w, i32_w]
     rfl
    refine pure_ (i := 24) (N := some 27) (v := ?_) (a' := ?_) (pm 43 25) rfl rfl (Qp HT_.out (by kernel_rfl)) (fun _ _ _ h => h) (Or.inl ⟨by rfl, ?_⟩) ?_ ?_
    rotate_left
    ·intro w'
     go_simp
     with_reducible rfl
    rotate_left
    ·simp only [Act.put, Q1,Q2,Q3, i64_w, i32_w]
     rfl
    refine pure_ (i := 25) (N := some 28) (v := undef) (a' := ?_) (pm 43 26) rfl rfl (Qp HT_.out (by kernel_rfl)) (fun _ _ _ h => h) (Or.inr ⟨by rfl, rfl⟩) ?_ ?_
    rotate_left
    ·simp only [Act.put, Q1,Q2,Q3, i64_w, i32_w]
     rfl
    refine pure_ (i := 26) (N := some 29) (v := undef) (a' := ?_) (pm 43 27) rfl rfl (Qp HT_.out (by kernel_rfl)) (fun _ _ _ h => h) (Or.inr ⟨by rfl, rfl⟩) ?_ ?_
    rotate_left
    ·simp only [Act.put, Q1,Q2,Q3, i64_w, i32_w]
     rfl
    refine pure_ (i := 27) (N := some 30) (v := undef) (a' := ?_) (pm 43 28) rfl rfl (Qp HT_.out (by kernel_rfl)) (fun _ _ _ h => h) (Or.inr ⟨by rfl, rfl⟩) ?_ ?_
    rotate_left
    ·simp only [Act.put, Q1,Q2,Q3, i64_w, i32_w]
     rfl
    refine pure_ (i := 28) (N := some 31) (v := undef) (a' := ?_) (pm 43 29) rfl rfl (Qp HT_.out (by kernel_rfl)) (fun _ _ _ h => h) (Or.inr ⟨by rfl, rfl⟩) ?_ ?_
    rotate_left
    ·simp only [Act.put, Q1,Q2,Q3, i64_w, i32_w]
     rfl
    refine pure_ (i := 29) (N := some 32) (v := undef) (a' := ?_) (pm 43 30) rfl rfl (Qp HT_.out (by kernel_rfl)) (fun _ _ _ h => h) (Or.inr ⟨by rfl, rfl⟩) ?_ ?_
    rotate_left
    ·simp only [Act.put, Q1,Q2,Q3, i64_w, i32_w]
     rfl
    refine pure_ (i := 30) (N := some 33) (v := undef) (a' := ?_) (pm 43 31) rfl rfl (Qp HT_.out (by kernel_rfl)) (fun _ _ _ h => h) (Or.inr ⟨by rfl, rfl⟩) ?_ ?_
    rotate_left
    ·simp only [Act.put, Q1,Q2,Q3, i64_w, i32_w]
     rfl
    refine pure_ (i := 31) (N := some 34) (v := ?_) (a' := ?_) (pm 43 32) rfl rfl (Qp HT_.out (by kernel_rfl)) (fun _ _ _ h => h) (Or.inl ⟨by rfl, ?_⟩) ?_ ?_
    rotate_left
    ·intro w'
     go_simp
     with_reducible rfl
    rotate_left
    ·simp only [Act.put, Q1,Q2,Q3, i64_w, i32_w]
     rfl
    refine pure_ (i := 32) (N := some 35) (v := ?_) (a' := ?_) (pm 43 33) rfl rfl (Qp HT_.out (by kernel_rfl)) (fun _ _ _ h => h) (Or.inl ⟨by rfl, ?_⟩) ?_ ?_
    rotate_left
    ·intro w'
     go_simp
     with_reducible rfl
    rotate_left
    ·simp only [Act.put, Q1,Q2,Q3, i64_w, i32_w]
     rfl
    refine pure_ (i := 33) (N := some 36) (v := undef) (a' := ?_) (pm 43 34) rfl rfl (Qp HT_.out (by kernel_rfl)) (fun _ _ _ h => h) (Or.inr ⟨by rfl, rfl⟩) ?_ ?_
    rotate_left
    ·simp only [Act.put, Q1,Q2,Q3, i64_w, i32_w]
     rfl
    refine pure_ (i := 34) (N := some 37) (v := undef) (a' := ?_) (pm 43 35) rfl rfl (Qp HT_.out (by kernel_rfl)) (fun _ _ _ h => h) (Or.inr ⟨by rfl, rfl⟩) ?_ ?_
    rotate_left
    ·simp only [Act.put, Q1,Q2,Q3, i64_w, i32_w]
     rfl
    refine pure_ (i := 35) (N := some 38) (v := undef) (a' := ?_) (pm 43 36) rfl rfl (Qp HT_.out (by kernel_rfl)) (fun _ _ _ h => h) (Or.inr ⟨by rfl, rfl⟩) ?_ ?_
    rotate_left
    ·simp only [Act.put, Q1,Q2,Q3, i64_w, i32_w]
     rfl
    refine pure_ (i := 36) (N := some 39) (v := undef) (a' := ?_) (pm 43 37) rfl rfl (Qp HT_.out (by kernel_rfl)) (fun _ _ _ h => h) (Or.inr ⟨by rfl, rfl⟩) ?_ ?_
    rotate_left
    ·simp only [Act.put, Q1,Q2,Q3, i64_w, i32_w]
     rfl
    refine pure_ (i := 37) (N := some 40) (v := undef) (a' := ?_) (pm 43 38) rfl rfl (Qp HT_.out (by kernel_rfl)) (fun _ _ _ h => h) (Or.inr ⟨by rfl, rfl⟩) ?_ ?_
    rotate_left
    ·simp only [Act.put, Q1,Q2,Q3, i64_w, i32_w]
     rfl
    refine pure_ (i := 38) (N := some 41) (v := undef) (a' := ?_) (pm 43 39) rfl rfl (Qp HT_.out (by kernel_rfl)) (fun _ _ _ h => h) (Or.inr ⟨by rfl, rfl⟩) ?_ ?_
    rotate_left
    ·simp only [Act.put, Q1,Q2,Q3, i64_w, i32_w]
     rfl
    refine pure_ (i := 39) (N := some 42) (v := undef) (a' := ?_) (pm 43 40) rfl rfl (Qp HT_.out (by kernel_rfl)) (fun _ _ _ h => h) (Or.inr ⟨by rfl, rfl⟩) ?_ ?_
    rotate_left
    ·simp only [Act.put, Q1,Q2,Q3, i64_w, i32_w]
     rfl
    refine pure_ (i := 40) (N := some 43) (v := undef) (a' := ?_) (pm 43 41) rfl rfl (Qp HT_.out (by kernel_rfl)) (fun _ _ _ h => h) (Or.inr ⟨by rfl, rfl⟩) ?_ ?_
    rotate_left
    ·simp only [Act.put, Q1,Q2,Q3, i64_w, i32_w]
     rfl
    refine pure_ (i := 41) (N := some 44) (v := ?_) (a' := ?_) (pm 43 42) rfl rfl (Qp HT_.out (by kernel_rfl)) (fun _ _ _ h => h) (Or.inl ⟨by rfl, ?_⟩) ?_ ?_
    rotate_left
    ·intro w'
     go_simp
     with_reducible rfl
    rotate_left
    ·simp only [Act.put, Q1,Q2,Q3, i64_w, i32_w]
     rfl
    refine pure_ (i := 42) (N := some 2) (v := ?_) (a' := ?_) (pm 43 43) rfl rfl (Qp HT_.out (by kernel_rfl)) (fun _ _ _ h => h) (Or.inl ⟨by rfl, ?_⟩) ?_ ?_
    rotate_left
    ·intro w'
     go_simp
     with_reducible rfl
    rotate_left
    ·simp only [Act.put, Q1,Q2,Q3, i64_w, i32_w]
     rfl
    refine done_ (done_of HT_.out (by kernel_rfl)) ?_
    try go_wp2
    go_ret
    exact ⟨by first|rfl|(simp [errW_none, errW_some] <;> rfl)|(simp [*, errW_none, errW_some] <;> rfl), by repeat (first|(with_reducible first|exact HB.out|apply Q8|apply Q5|apply Q9|refine Q6 ?_ GE141.out)|exact HB.out)⟩
  ·rw [if_neg c3] at H
   have c3b0 : decide (a0_0 < 26) = false := decide_eq_false c3
   clear c3
   obtain rfl := Qn H
   refine pure_ (i := 7) (N := some 10) (v := ?_) (a' := ?_) (pm 43 8) rfl rfl (Qp HT_.out (by kernel_rfl)) (fun _ _ _ h => h) (Or.inl ⟨by rfl, ?_⟩) ?_ ?_
   rotate_left
   ·intro w'
    go_simp
    with_reducible rfl
   rotate_left
   ·simp only [Act.put, Q1,Q2,Q3, i64_w, i32_w]
    rfl
   refine pure_ (i := 8) (N := some 11) (v := ?_) (a' := ?_) (pm 43 9) rfl rfl (Qp HT_.out (by kernel_rfl)) (fun _ _ _ h => h) (Or.inl ⟨by rfl, ?_⟩) ?_ ?_
   rotate_left
   ·intro w'
    go_simp
    with_reducible rfl
   rotate_left
   ·simp only [Act.put, Q1,Q2,Q3, i64_w, i32_w]
    rfl
   refine pure_ (i := 9) (N := some 12) (v := undef) (a' := ?_) (pm 43 10) rfl rfl (Qp HT_.out (by kernel_rfl)) (fun _ _ _ h => h) (Or.inr ⟨by rfl, rfl⟩) ?_ ?_
   rotate_left
   ·simp only [Act.put, Q1,Q2,Q3, i64_w, i32_w]
    rfl
   refine pure_ (i := 10) (N := some 13) (v := undef) (a' := ?_) (pm 43 11) rfl rfl (Qp HT_.out (by kernel_rfl)) (fun _ _ _ h => h) (Or.inr ⟨by rfl, rfl⟩) ?_ ?_
   rotate_left
   ·simp only [Act.put, Q1,Q2,Q3, i64_w, i32_w]
    rfl
   refine pure_ (i := 11) (N := some 14) (v := undef) (a' := ?_) (pm 43 12) rfl rfl (Qp HT_.out (by kernel_rfl)) (fun _ _ _ h => h) (Or.inr ⟨by rfl, rfl⟩) ?_ ?_
   rotate_left
   ·simp only [Act.put, Q1,Q2,Q3, i64_w, i32_w]
    rfl
   refine pure_ (i := 12) (N := some 15) (v := undef) (a' := ?_) (pm 43 13) rfl rfl (Qp HT_.out (by kernel_rfl)) (fun _ _ _ h => h) (Or.inr ⟨by rfl, rfl⟩) ?_ ?_
   rotate_left
   ·simp only [Act.put, Q1,Q2,Q3, i64_w, i32_w]
    rfl
   refine pure_ (i := 13) (N := some 16) (v := undef) (a' := ?_) (pm 43 14) rfl rfl (Qp HT_.out (by kernel_rfl)) (fun _ _ _ h => h) (Or.inr ⟨by rfl, rfl⟩) ?_ ?_
   rotate_left
   ·simp only [Act.put, Q1,Q2,Q3, i64_w, i32_w]
    rfl
   refine pure_ (i := 14) (N := some 17) (v := undef) (a' := ?_) (pm 43 15) rfl rfl (Qp HT_.out (by kernel_rfl)) (fun _ _ _ h => h) (Or.inr ⟨by rfl, rfl⟩) ?_ ?_
   rotate_left
   ·simp only [Act.put, Q1,Q2,Q3, i64_w, i32_w]
    rfl
   refine pure_ (i := 15) (N := some 18) (v := ?_) (a' := ?_) (pm 43 16) rfl rfl (Qp HT_.out (by kernel_rfl)) (fun _ _ _ h => h) (Or.inl ⟨by rfl, ?_⟩) ?_ ?_
   rotate_left
   ·intro w'
    go_simp
    with_reducible rfl
   rotate_left
   ·simp only [Act.put, Q1,Q2,Q3, i64_w, i32_w]
    rfl
   refine pure_ (i := 16) (N := some 19) (v := ?_) (a' := ?_) (pm 43 17) rfl rfl (Qp HT_.out (by kernel_rfl)) (fun _ _ _ h => h) (Or.inl ⟨by rfl, ?_⟩) ?_ ?_
   rotate_left
   ·intro w'
    go_simp
    with_reducible rfl
   rotate_left
   ·simp only [Act.put, Q1,Q2,Q3, i64_w, i32_w]
    rfl
   refine pure_ (i := 17) (N := some 20) (v := undef) (a' := ?_) (pm 43 18) rfl rfl (Qp HT_.out (by kernel_rfl)) (fun _ _ _ h => h) (Or.inr ⟨by rfl, rfl⟩) ?_ ?_
   rotate_left
   ·simp only [Act.put, Q1,Q2,Q3, i64_w, i32_w]
    rfl
   refine pure_ (i := 18) (N := some 21) (v := undef) (a' := ?_) (pm 43 19) rfl rfl (Qp HT_.out (by kernel_rfl)) (fun _ _ _ h => h) (Or.inr ⟨by rfl, rfl⟩) ?_ ?_
   rotate_left
   ·simp only [Act.put, Q1,Q2,Q3, i64_w, i32_w]
    rfl
   refine pure_ (i := 19) (N := some 22) (v := undef) (a' := ?_) (pm 43 20) rfl rfl (Qp HT_.out (by kernel_rfl)) (fun _ _ _ h => h) (Or.inr ⟨by rfl, rfl⟩) ?_ ?_
   rotate_left
   ·simp only [Act.put, Q1,Q2,Q3, i64_w, i32_w]
    rfl
   refine pure_ (i := 20) (N := some 23) (v := undef) (a' := ?_) (pm 43 21) rfl rfl (Qp HT_.out (by kernel_rfl)) (fun _ _ _ h => h) (Or.inr ⟨by rfl, rfl⟩) ?_ ?_
   rotate_left
   ·simp only [Act.put, Q1,Q2,Q3, i64_w, i32_w]
    rfl
   refine pure_ (i := 21) (N := some 24) (v := undef) (a' := ?_) (pm 43 22) rfl rfl (Qp HT_.out (by kernel_rfl)) (fun _ _ _ h => h) (Or.inr ⟨by rfl, rfl⟩) ?_ ?_
   rotate_left
   ·simp only [Act.put, Q1,Q2,Q3, i64_w, i32_w]
    rfl
   refine pure_ (i := 22) (N := some 25) (v := undef) (a' := ?_) (pm 43 23) rfl rfl (Qp HT_.out (by kernel_rfl)) (fun _ _ _ h => h) (Or.inr ⟨by rfl, rfl⟩) ?_ ?_
   rotate_left
   ·simp only [Act.put, Q1,Q2,Q3, i64_w, i32_w]
    rfl
   refine pure_ (i := 23) (N := some 26) (v := ?_) (a' := ?_) (pm 43 24) rfl rfl (Qp HT_.out (by kernel_rfl)) (fun _ _ _ h => h) (Or.inl ⟨by rfl, ?_⟩) ?_ ?_
   rotate_left
   ·intro w'
    go_simp
    with_reducible rfl
   rotate_left
   ·simp only [Act.put, Q1,Q2,Q3, i64_w, i32_w]
    rfl
   refine pure_ (i := 24) (N := some 27) (v := ?_) (a' := ?_) (pm 43 25) rfl rfl (Qp HT_.out (by kernel_rfl)) (fun _ _ _ h => h) (Or.inl ⟨by rfl, ?_⟩) ?_ ?_
   rotate_left
   ·intro w'
    go_simp
    with_reducible rfl
   rotate_left
   ·simp only [Act.put, Q1,Q2,Q3, i64_w, i32_w]
    rfl
   refine pure_ (i := 25) (N := some 28) (v := undef) (a' := ?_) (pm 43 26) rfl rfl (Qp HT_.out (by kernel_rfl)) (fun _ _ _ h => h) (Or.inr ⟨by rfl, rfl⟩) ?_ ?_
   rotate_left
   ·simp only [Act.put, Q1,Q2,Q3, i64_w, i32_w]
    rfl
   refine pure_ (i := 26) (N := some 29) (v := undef) (a' := ?_) (pm 43 27) rfl rfl (Qp HT_.out (by kernel_rfl)) (fun _ _ _ h => h) (Or.inr ⟨by rfl, rfl⟩) ?_ ?_
   rotate_left
   ·simp only [Act.put, Q1,Q2,Q3, i64_w, i32_w]
    rfl
   refine pure_ (i := 27) (N := some 30) (v := undef) (a' := ?_) (pm 43 28) rfl rfl (Qp HT_.out (by kernel_rfl)) (fun _ _ _ h => h) (Or.inr ⟨by rfl, rfl⟩) ?_ ?_
   rotate_left
   ·simp only [Act.put, Q1,Q2,Q3, i64_w, i32_w]
    rfl
   refine pure_ (i := 28) (N := some 31) (v := undef) (a' := ?_) (pm 43 29) rfl rfl (Qp HT_.out (by kernel_rfl)) (fun _ _ _ h => h) (Or.inr ⟨by rfl, rfl⟩) ?_ ?_
   rotate_left
   ·simp only [Act.put, Q1,Q2,Q3, i64_w, i32_w]
    rfl
   refine pure_ (i := 29) (N := some 32) (v := undef) (a' := ?_) (pm 43 30) rfl rfl (Qp HT_.out (by kernel_rfl)) (fun _ _ _ h => h) (Or.inr ⟨by rfl, rfl⟩) ?_ ?_
   rotate_left
   ·simp only [Act.put, Q1,Q2,Q3, i64_w, i32_w]
    rfl
   refine pure_ (i := 30) (N := some 33) (v := undef) (a' := ?_) (pm 43 31) rfl rfl (Qp HT_.out (by kernel_rfl)) (fun _ _ _ h => h) (Or.inr ⟨by rfl, rfl⟩) ?_ ?_
   rotate_left
   ·simp only [Act.put, Q1,Q2,Q3, i64_w, i32_w]
    rfl
   refine pure_ (i := 31) (N := some 34) (v := ?_) (a' := ?_) (pm 43 32) rfl rfl (Qp HT_.out (by kernel_rfl)) (fun _ _ _ h => h) (Or.inl ⟨by rfl, ?_⟩) ?_ ?_
   rotate_left
   ·intro w'
    go_simp
    with_reducible rfl
   rotate_left
   ·simp only [Act.put, Q1,Q2,Q3, i64_w, i32_w]
    rfl
   refine pure_ (i := 32) (N := some 35) (v := ?_) (a' := ?_) (pm 43 33) rfl rfl (Qp HT_.out (by kernel_rfl)) (fun _ _ _ h => h) (Or.inl ⟨by rfl, ?_⟩) ?_ ?_
   rotate_left
   ·intro w'
    go_simp
    with_reducible rfl
   rotate_left
   ·simp only [Act.put, Q1,Q2,Q3, i64_w, i32_w]
    rfl
   refine pure_ (i := 33) (N := some 36) (v := undef) (a' := ?_) (pm 43 34) rfl rfl (Qp HT_.out (by kernel_rfl)) (fun _ _ _ h => h) (Or.inr ⟨by rfl, rfl⟩) ?_ ?_
   rotate_left
   ·simp only [Act.put, Q1,Q2,Q3, i64_w, i32_w]
    rfl
   refine pure_ (i := 34) (N := some 37) (v := undef) (a' := ?_) (pm 43 35) rfl rfl (Qp HT_.out (by kernel_rfl)) (fun _ _ _ h => h) (Or.inr ⟨by rfl, rfl⟩) ?_ ?_
   rotate_left
   ·simp only [Act.put, Q1,Q2,Q3, i64_w, i32_w]
    rfl
   refine pure_ (i := 35) (N := some 38) (v := undef) (a' := ?_) (pm 43 36) rfl rfl (Qp HT_.out (by kernel_rfl)) (fun _ _ _ h => h) (Or.inr ⟨by rfl, rfl⟩) ?_ ?_
   rotate_left
   ·simp only [Act.put, Q1,Q2,Q3, i64_w, i32_w]
    rfl
   refine pure_ (i := 36) (N := some 39) (v := undef) (a' := ?_) (pm 43 37) rfl rfl (Qp HT_.out (by kernel_rfl)) (fun _ _ _ h => h) (Or.inr ⟨by rfl, rfl⟩) ?_ ?_
   rotate_left
   ·simp only [Act.put, Q1,Q2,Q3, i64_w, i32_w]
    rfl
   refine pure_ (i := 37) (N := some 40) (v := undef) (a' := ?_) (pm 43 38) rfl rfl (Qp HT_.out (by kernel_rfl)) (fun _ _ _ h => h) (Or.inr ⟨by rfl, rfl⟩) ?_ ?_
   rotate_left
   ·simp only [Act.put, Q1,Q2,Q3, i64_w, i32_w]
    rfl
   refine pure_ (i := 38) (N := some 41) (v := undef) (a' := ?_) (pm 43 39) rfl rfl (Qp HT_.out (by kernel_rfl)) (fun _ _ _ h => h) (Or.inr ⟨by rfl, rfl⟩) ?_ ?_
   rotate_left
   ·simp only [Act.put, Q1,Q2,Q3, i64_w, i32_w]
    rfl
   refine pure_ (i := 39) (N := some 42) (v := undef) (a' := ?_) (pm 43 40) rfl rfl (Qp HT_.out (by kernel_rfl)) (fun _ _ _ h => h) (Or.inr ⟨by rfl, rfl⟩) ?_ ?_
   rotate_left
   ·simp only [Act.put, Q1,Q2,Q3, i64_w, i32_w]
    rfl
   refine pure_ (i := 40) (N := some 43) (v := undef) (a' := ?_) (pm 43 41) rfl rfl (Qp HT_.out (by kernel_rfl)) (fun _ _ _ h => h) (Or.inr ⟨by rfl, rfl⟩) ?_ ?_
   rotate_left
   ·simp only [Act.put, Q1,Q2,Q3, i64_w, i32_w]
    rfl
   refine pure_ (i := 41) (N := some 44) (v := ?_) (a' := ?_) (pm 43 42) rfl rfl (Qp HT_.out (by kernel_rfl)) (fun _ _ _ h => h) (Or.inl ⟨by rfl, ?_⟩) ?_ ?_
   rotate_left
   ·intro w'
    go_simp
    with_reducible rfl
   rotate_left
   ·simp only [Act.put, Q1,Q2,Q3, i64_w, i32_w]
    rfl
   refine pure_ (i := 42) (N := some 2) (v := ?_) (a' := ?_) (pm 43 43) rfl rfl (Qp HT_.out (by kernel_rfl)) (fun _ _ _ h => h) (Or.inl ⟨by rfl, ?_⟩) ?_ ?_
   rotate_left
   ·intro w'
    go_simp
    with_reducible rfl
   rotate_left
   ·simp only [Act.put, Q1,Q2,Q3, i64_w, i32_w]
    rfl
   refine done_ (done_of HT_.out (by kernel_rfl)) ?_
   try go_wp2
   go_ret
   exact ⟨by first|rfl|(simp [errW_none, errW_some] <;> rfl)|(simp [*, errW_none, errW_some] <;> rfl), by repeat (first|(with_reducible first|exact HB.out|apply Q8|apply Q5|apply Q9|refine Q6 ?_ GE141.out)|exact HB.out)⟩
 ·rw [if_neg c2] at H
  have c2b0 : decide (0 ≤ a0_0) = false := decide_eq_false c2
  clear c2
  obtain rfl := Qn H
  refine pure_ (i := 2) (N := some 5) (v := ?_) (a' := ?_) (pm 43 3) rfl rfl (Qp HT_.out (by kernel_rfl)) (fun _ _ _ h => h) (Or.inl ⟨by rfl, ?_⟩) ?_ ?_
  rotate_left
  ·intro w'
   go_simp
   with_reducible rfl
  rotate_left
  ·simp only [Act.put, Q1,Q2,Q3, i64_w, i32_w]
   rfl
  refine pure_ (i := 3) (N := some 6) (v := ?_) (a' := ?_) (pm 43 4) rfl rfl (Qp HT_.out (by kernel_rfl)) (fun _ _ _ h => h) (Or.inl ⟨by rfl, ?_⟩) ?_ ?_
  rotate_left
  ·intro w'
   go_simp
   with_reducible rfl
  rotate_left
  ·simp only [Act.put, Q1,Q2,Q3, i64_w, i32_w]
   rfl
  refine pure_ (i := 4) (N := some 7) (v := undef) (a' := ?_) (pm 43 5) rfl rfl (Qp HT_.out (by kernel_rfl)) (fun _ _ _ h => h) (Or.inr ⟨by rfl, rfl⟩) ?_ ?_
  rotate_left
  ·simp only [Act.put, Q1,Q2,Q3, i64_w, i32_w]
   rfl
  refine pure_ (i := 5) (N := some 8) (v := undef) (a' := ?_) (pm 43 6) rfl rfl (Qp HT_.out (by kernel_rfl)) (fun _ _ _ h => h) (Or.inr ⟨by rfl, rfl⟩) ?_ ?_
  rotate_left
  ·simp only [Act.put, Q1,Q2,Q3, i64_w, i32_w]
   rfl
  refine pure_ (i := 6) (N := some 9) (v := undef) (a' := ?_) (pm 43 7) rfl rfl (Qp HT_.out (by kernel_rfl)) (fun _ _ _ h => h) (Or.inr ⟨by rfl, rfl⟩) ?_ ?_
  rotate_left
  ·simp only [Act.put, Q1,Q2,Q3, i64_w, i32_w]
   rfl
  refine pure_ (i := 7) (N := some 10) (v := ?_) (a' := ?_) (pm 43 8) rfl rfl (Qp HT_.out (by kernel_rfl)) (fun _ _ _ h => h) (Or.inl ⟨by rfl, ?_⟩) ?_ ?_
  rotate_left
  ·intro w'
   go_simp
   with_reducible rfl
  rotate_left
  ·simp only [Act.put, Q1,Q2,Q3, i64_w, i32_w]
   rfl
  refine pure_ (i := 8) (N := some 11) (v := ?_) (a' := ?_) (pm 43 9) rfl rfl (Qp HT_.out (by kernel_rfl)) (fun _ _ _ h => h) (Or.inl ⟨by rfl, ?_⟩) ?_ ?_
  rotate_left
  ·intro w'
   go_simp
   with_reducible rfl
  rotate_left
  ·simp only [Act.put, Q1,Q2,Q3, i64_w, i32_w]
   rfl
  refine pure_ (i := 9) (N := some 12) (v := undef) (a' := ?_) (pm 43 10) rfl rfl (Qp HT_.out (by kernel_rfl)) (fun _ _ _ h => h) (Or.inr ⟨by rfl, rfl⟩) ?_ ?_
  rotate_left
  ·simp only [Act.put, Q1,Q2,Q3, i64_w, i32_w]
   rfl
  refine pure_ (i := 10) (N := some 13) (v := undef) (a' := ?_) (pm 43 11) rfl rfl (Qp HT_.out (by kernel_rfl)) (fun _ _ _ h => h) (Or.inr ⟨by rfl, rfl⟩) ?_ ?_
  rotate_left
  ·simp only [Act.put, Q1,Q2,Q3, i64_w, i32_w]
   rfl
  refine pure_ (i := 11) (N := some 14) (v := undef) (a' := ?_) (pm 43 12) rfl rfl (Qp HT_.out (by kernel_rfl)) (fun _ _ _ h => h) (Or.inr ⟨by rfl, rfl⟩) ?_ ?_
  rotate_left
  ·simp only [Act.put, Q1,Q2,Q3, i64_w, i32_w]
   rfl
  refine pure_ (i := 12) (N := some 15) (v := undef) (a' := ?_) (pm 43 13) rfl rfl (Qp HT_.out (by kernel_rfl)) (fun _ _ _ h => h) (Or.inr ⟨by rfl, rfl⟩) ?_ ?_
  rotate_left
  ·simp only [Act.put, Q1,Q2,Q3, i64_w, i32_w]
   rfl
  refine pure_ (i := 13) (N := some 16) (v := undef) (a' := ?_) (pm 43 14) rfl rfl (Qp HT_.out (by kernel_rfl)) (fun _ _ _ h => h) (Or.inr ⟨by rfl, rfl⟩) ?_ ?_
  rotate_left
  ·simp only [Act.put, Q1,Q2,Q3, i64_w, i32_w]
   rfl
  refine pure_ (i := 14) (N := some 17) (v := undef) (a' := ?_) (pm 43 15) rfl rfl (Qp HT_.out (by kernel_rfl)) (fun _ _ _ h => h) (Or.inr ⟨by rfl, rfl⟩) ?_ ?_
  rotate_left
  ·simp only [Act.put, Q1,Q2,Q3, i64_w, i32_w]
   rfl
  refine pure_ (i := 15) (N := some 18) (v := ?_) (a' := ?_) (pm 43 16) rfl rfl (Qp HT_.out (by kernel_rfl)) (fun _ _ _ h => h) (Or.inl ⟨by rfl, ?_⟩) ?_ ?_
  rotate_left
  ·intro w'
   go_simp
   with_reducible rfl
  rotate_left
  ·simp only [Act.put, Q1,Q2,Q3, i64_w, i32_w]
   rfl
  refine pure_ (i := 16) (N := some 19) (v := ?_) (a' := ?_) (pm 43 17) rfl rfl (Qp HT_.out (by kernel_rfl)) (fun _ _ _ h => h) (Or.inl ⟨by rfl, ?_⟩) ?_ ?_
  rotate_left
  ·intro w'
   go_simp
   with_reducible rfl
  rotate_left
  ·simp only [Act.put, Q1,Q2,Q3, i64_w, i32_w]
   rfl
  refine pure_ (i := 17) (N := some 20) (v := undef) (a' := ?_) (pm 43 18) rfl rfl (Qp HT_.out (by kernel_rfl)) (fun _ _ _ h => h) (Or.inr ⟨by rfl, rfl⟩) ?_ ?_
  rotate_left
  ·simp only [Act.put, Q1,Q2,Q3, i64_w, i32_w]
   rfl
  refine pure_ (i := 18) (N := some 21) (v := undef) (a' := ?_) (pm 43 19) rfl rfl (Qp HT_.out (by kernel_rfl)) (fun _ _ _ h => h) (Or.inr ⟨by rfl, rfl⟩) ?_ ?_
  rotate_left
  ·simp only [Act.put, Q1,Q2,Q3, i64_w, i32_w]
   rfl
  refine pure_ (i := 19) (N := some 22) (v := undef) (a' := ?_) (pm 43 20) rfl rfl (Qp HT_.out (by kernel_rfl)) (fun _ _ _ h => h) (Or.inr ⟨by rfl, rfl⟩) ?_ ?_
  rotate_left
  ·simp only [Act.put, Q1,Q2,Q3, i64_w, i32_w]
   rfl
  refine pure_ (i := 20) (N := some 23) (v := undef) (a' := ?_) (pm 43 21) rfl rfl (Qp HT_.out (by kernel_rfl)) (fun _ _ _ h => h) (Or.inr ⟨by rfl, rfl⟩) ?_ ?_
  rotate_left
  ·simp only [Act.put, Q1,Q2,Q3, i64_w, i32_w]
   rfl
  refine pure_ (i := 21) (N := some 24) (v := undef) (a' := ?_) (pm 43 22) rfl rfl (Qp HT_.out (by kernel_rfl)) (fun _ _ _ h => h) (Or.inr ⟨by rfl, rfl⟩) ?_ ?_
  rotate_left
  ·simp only [Act.put, Q1,Q2,Q3, i64_w, i32_w]
   rfl
  refine pure_ (i := 22) (N := some 25) (v := undef) (a' := ?_) (pm 43 23) rfl rfl (Qp HT_.out (by kernel_rfl)) (fun _ _ _ h => h) (Or.inr ⟨by rfl, rfl⟩) ?_ ?_
  rotate_left
  ·simp only [Act.put, Q1,Q2,Q3, i64_w, i32_w]
   rfl
  refine pure_ (i := 23) (N := some 26) (v := ?_) (a' := ?_) (pm 43 24) rfl rfl (Qp HT_.out (by kernel_rfl)) (fun _ _ _ h => h) (Or.inl ⟨by rfl, ?_⟩) ?_ ?_
  rotate_left
  ·intro w'
   go_simp
   with_reducible rfl
  rotate_left
  ·simp only [Act.put, Q1,Q2,Q3, i64_w, i32_w]
   rfl
  refine pure_ (i := 24) (N := some 27) (v := ?_) (a' := ?_) (pm 43 25) rfl rfl (Qp HT_.out (by kernel_rfl)) (fun _ _ _ h => h) (Or.inl ⟨by rfl, ?_⟩) ?_ ?_
  rotate_left
  ·intro w'
   go_simp
   with_reducible rfl
  rotate_left
  ·simp only [Act.put, Q1,Q2,Q3, i64_w, i32_w]
   rfl
  refine pure_ (i := 25) (N := some 28) (v := undef) (a' := ?_) (pm 43 26) rfl rfl (Qp HT_.out (by kernel_rfl)) (fun _ _ _ h => h) (Or.inr ⟨by rfl, rfl⟩) ?_ ?_
  rotate_left
  ·simp only [Act.put, Q1,Q2,Q3, i64_w, i32_w]
   rfl
  refine pure_ (i := 26) (N := some 29) (v := undef) (a' := ?_) (pm 43 27) rfl rfl (Qp HT_.out (by kernel_rfl)) (fun _ _ _ h => h) (Or.inr ⟨by rfl, rfl⟩) ?_ ?_
  rotate_left
  ·simp only [Act.put, Q1,Q2,Q3, i64_w, i32_w]
   rfl
  refine pure_ (i := 27) (N := some 30) (v := undef) (a' := ?_) (pm 43 28) rfl rfl (Qp HT_.out (by kernel_rfl)) (fun _ _ _ h => h) (Or.inr ⟨by rfl, rfl⟩) ?_ ?_
  rotate_left
  ·simp only [Act.put, Q1,Q2,Q3, i64_w, i32_w]
   rfl
  refine pure_ (i := 28) (N := some 31) (v := undef) (a' := ?_) (pm 43 29) rfl rfl (Qp HT_.out (by kernel_rfl)) (fun _ _ _ h => h) (Or.inr ⟨by rfl, rfl⟩) ?_ ?_
  rotate_left
  ·simp only [Act.put, Q1,Q2,Q3, i64_w, i32_w]
   rfl
  refine pure_ (i := 29) (N := some 32) (v := undef) (a' := ?_) (pm 43 30) rfl rfl (Qp HT_.out (by kernel_rfl)) (fun _ _ _ h => h) (Or.inr ⟨by rfl, rfl⟩) ?_ ?_
  rotate_left
  ·simp only [Act.put, Q1,Q2,Q3, i64_w, i32_w]
   rfl
  refine pure_ (i := 30) (N := some 33) (v := undef) (a' := ?_) (pm 43 31) rfl rfl (Qp HT_.out (by kernel_rfl)) (fun _ _ _ h => h) (Or.inr ⟨by rfl, rfl⟩) ?_ ?_
  rotate_left
  ·simp only [Act.put, Q1,Q2,Q3, i64_w, i32_w]
   rfl
  refine pure_ (i := 31) (N := some 34) (v := ?_) (a' := ?_) (pm 43 32) rfl rfl (Qp HT_.out (by kernel_rfl)) (fun _ _ _ h => h) (Or.inl ⟨by rfl, ?_⟩) ?_ ?_
  rotate_left
  ·intro w'
   go_simp
   with_reducible rfl
  rotate_left
  ·simp only [Act.put, Q1,Q2,Q3, i64_w, i32_w]
   rfl
  refine pure_ (i := 32) (N := some 35) (v := ?_) (a' := ?_) (pm 43 33) rfl rfl (Qp HT_.out (by kernel_rfl)) (fun _ _ _ h => h) (Or.inl ⟨by rfl, ?_⟩) ?_ ?_
  rotate_left
  ·intro w'
   go_simp
   with_reducible rfl
  rotate_left
  ·simp only [Act.put, Q1,Q2,Q3, i64_w, i32_w]
   rfl
  refine pure_ (i := 33) (N := some 36) (v := undef) (a' := ?_) (pm 43 34) rfl rfl (Qp HT_.out (by kernel_rfl)) (fun _ _ _ h => h) (Or.inr ⟨by rfl, rfl⟩) ?_ ?_
  rotate_left
  ·simp only [Act.put, Q1,Q2,Q3, i64_w, i32_w]
   rfl
  refine pure_ (i := 34) (N := some 37) (v := undef) (a' := ?_) (pm 43 35) rfl rfl (Qp HT_.out (by kernel_rfl)) (fun _ _ _ h => h) (Or.inr ⟨by rfl, rfl⟩) ?_ ?_
  rotate_left
  ·simp only [Act.put, Q1,Q2,Q3, i64_w, i32_w]
   rfl
  refine pure_ (i := 35) (N := some 38) (v := undef) (a' := ?_) (pm 43 36) rfl rfl (Qp HT_.out (by kernel_rfl)) (fun _ _ _ h => h) (Or.inr ⟨by rfl, rfl⟩) ?_ ?_
  rotate_left
  ·simp only [Act.put, Q1,Q2,Q3, i64_w, i32_w]
   rfl
  refine pure_ (i := 36) (N := some 39) (v := undef) (a' := ?_) (pm 43 37) rfl rfl (Qp HT_.out (by kernel_rfl)) (fun _ _ _ h => h) (Or.inr ⟨by rfl, rfl⟩) ?_ ?_
  rotate_left
  ·simp only [Act.put, Q1,Q2,Q3, i64_w, i32_w]
   rfl
  refine pure_ (i := 37) (N := some 40) (v := undef) (a' := ?_) (pm 43 38) rfl rfl (Qp HT_.out (by kernel_rfl)) (fun _ _ _ h => h) (Or.inr ⟨by rfl, rfl⟩) ?_ ?_
  rotate_left
  ·simp only [Act.put, Q1,Q2,Q3, i64_w, i32_w]
   rfl
  refine pure_ (i := 38) (N := some 41) (v := undef) (a' := ?_) (pm 43 39) rfl rfl (Qp HT_.out (by kernel_rfl)) (fun _ _ _ h => h) (Or.inr ⟨by rfl, rfl⟩) ?_ ?_
  rotate_left
  ·simp only [Act.put, Q1,Q2,Q3, i64_w, i32_w]
   rfl
  refine pure_ (i := 39) (N := some 42) (v := undef) (a' := ?_) (pm 43 40) rfl rfl (Qp HT_.out (by kernel_rfl)) (fun _ _ _ h => h) (Or.inr ⟨by rfl, rfl⟩) ?_ ?_
  rotate_left
  ·simp only [Act.put, Q1,Q2,Q3, i64_w, i32_w]
   rfl
  refine pure_ (i := 40) (N := some 43) (v := undef) (a' := ?_) (pm 43 41) rfl rfl (Qp HT_.out (by kernel_rfl)) (fun _ _ _ h => h) (Or.inr ⟨by rfl, rfl⟩) ?_ ?_
  rotate_left
  ·simp only [Act.put, Q1,Q2,Q3, i64_w, i32_w]
   rfl
  refine pure_ (i := 41) (N := some 44) (v := ?_) (a' := ?_) (pm 43 42) rfl rfl (Qp HT_.out (by kernel_rfl)) (fun _ _ _ h => h) (Or.inl ⟨by rfl, ?_⟩) ?_ ?_
  rotate_left
  ·intro w'
   go_simp
   with_reducible rfl
  rotate_left
  ·simp only [Act.put, Q1,Q2,Q3, i64_w, i32_w]
   rfl
  refine pure_ (i := 42) (N := some 2) (v := ?_) (a' := ?_) (pm 43 43) rfl rfl (Qp HT_.out (by kernel_rfl)) (fun _ _ _ h => h) (Or.inl ⟨by rfl, ?_⟩) ?_ ?_
  rotate_left
  ·intro w'
   go_simp
   with_reducible rfl
  rotate_left
  ·simp only [Act.put, Q1,Q2,Q3, i64_w, i32_w]
   rfl
  refine done_ (done_of HT_.out (by kernel_rfl)) ?_
  try go_wp2
  go_ret
  exact ⟨by first|rfl|(simp [errW_none, errW_some] <;> rfl)|(simp [*, errW_none, errW_some] <;> rfl), by repeat (first|(with_reducible first|exact HB.out|apply Q8|apply Q5|apply Q9|refine Q6 ?_ GE141.out)|exact HB.out)⟩

end Go.Proofs.YtbelnkdbghggmaaGreatDoor.X
namespace Go.Proofs.YtbelnkdbghggmaaGreatDoor.X
open Go.RowKit Go.Proofs.YtbelnkdbghggmaaGreatDoorW.PrintWords Go.Proofs.YtbelnkdbghggmaaGreatDoorW.PrintLast

set_option linter.unusedVariables false
set_option linter.unusedSimpArgs false

theorem eqA38 (d : Nat) (w : World) (x0 y0 : Int) (x1 y1 : Int) (x2 y2 : Int) (x3 y3 : Int) (x4 y4 : Int) :
    (Op.equalIn (d + 2) 38 (.agg #[.int .i64 x0, .int .i64 x1, .int .i64 x2, .int .i64 x3, .int .i32 x4]) (.agg #[.int .i64 y0, .int .i64 y1, .int .i64 y2, .int .i64 y3, .int .i32 y4])).run Tryz.prog w = .ok (x0 == y0 && (x1 == y1 && (x2 == y2 && (x3 == y3 && (x4 == y4))))) w := by
  refine eqA_of Tryz.underlying38 (by kernel_rfl) ?_
  refine eqf_cons (by rfl) (by go_simp; rfl) (by go_simp; rfl) (by go_simp) ?_
  refine eqf_cons (by rfl) (by go_simp; rfl) (by go_simp; rfl) (by go_simp) ?_
  refine eqf_cons (by rfl) (by go_simp; rfl) (by go_simp; rfl) (by go_simp) ?_
  refine eqf_cons (by rfl) (by go_simp; rfl) (by go_simp; rfl) (by go_simp) ?_
  exact eqf_last (by rfl) (by go_simp; rfl) (by go_simp; rfl) (by go_simp)
end Go.Proofs.YtbelnkdbghggmaaGreatDoor.X
