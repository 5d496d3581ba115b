/- Texts of this claim that stand one behind another, merged. -/
import Derived.Test.YtbelnkdbghggmaaGreatDoorXx0
import Derived.Test.YtbelnkdbghggmaaGreatDoorMr5
import Derived.Test.YtbelnkdbghggmaaGreatDoorMr6
namespace Go.Proofs.YtbelnkdbghggmaaGreatDoor.X
open Go.RowKit Go.Proofs.YtbelnkdbghggmaaGreatDoorW.PrintWords Go.Proofs.YtbelnkdbghggmaaGreatDoorW.PrintLast

set_option linter.unusedVariables false
set_option linter.unusedSimpArgs false

/-! ### curtilageref10_word: function 45 -/
def curtilageref10_word.l0 : Nat → ByteArray → Int → Option (Bool)
 | 0, _, _ => none
 | k + 1, x0, x3 => if x3 < (x0.size : Int) then (if 0 ≤ x3 then (if (bt x0 x3) ≥ 48 then (if ((bt x0 x3) ≤ 57) then (if x3 = 0 then (if (bt x0 x3) ≤ 57 then (some false) else (curtilageref10_word.l0 k x0 (wrap64 (x3 + 1)))) else (curtilageref10_word.l0 k x0 (wrap64 (x3 + 1)))) else (if (bt x0 x3) = 95 then (if x3 = 0 then (if (bt x0 x3) ≤ 57 then (some false) else (curtilageref10_word.l0 k x0 (wrap64 (x3 + 1)))) else (curtilageref10_word.l0 k x0 (wrap64 (x3 + 1)))) else (if (bt x0 x3) < 97 then (if (bt x0 x3) < 65 then (some false) else (if (bt x0 x3) > 90 then (some false) else (if x3 = 0 then (if (bt x0 x3) ≤ 57 then (some false) else (curtilageref10_word.l0 k x0 (wrap64 (x3 + 1)))) else (curtilageref10_word.l0 k x0 (wrap64 (x3 + 1)))))) else (if (bt x0 x3) > 122 then (if (bt x0 x3) < 65 then (some false) else (if (bt x0 x3) > 90 then (some false) else (if x3 = 0 then (if (bt x0 x3) ≤ 57 then (some false) else (curtilageref10_word.l0 k x0 (wrap64 (x3 + 1)))) else (curtilageref10_word.l0 k x0 (wrap64 (x3 + 1)))))) else (if x3 = 0 then (if (bt x0 x3) ≤ 57 then (some false) else (curtilageref10_word.l0 k x0 (wrap64 (x3 + 1)))) else (curtilageref10_word.l0 k x0 (wrap64 (x3 + 1)))))))) else (if (bt x0 x3) = 95 then (if x3 = 0 then (curtilageref10_word.l0 k x0 (wrap64 (x3 + 1))) else (curtilageref10_word.l0 k x0 (wrap64 (x3 + 1)))) else (if (bt x0 x3) < 97 then (if (bt x0 x3) < 65 then (some false) else (if (bt x0 x3) > 90 then (some false) else (if x3 = 0 then (curtilageref10_word.l0 k x0 (wrap64 (x3 + 1))) else (curtilageref10_word.l0 k x0 (wrap64 (x3 + 1)))))) else (if (bt x0 x3) > 122 then (if (bt x0 x3) < 65 then (some false) else (if (bt x0 x3) > 90 then (some false) else (if x3 = 0 then (curtilageref10_word.l0 k x0 (wrap64 (x3 + 1))) else (curtilageref10_word.l0 k x0 (wrap64 (x3 + 1)))))) else (if x3 = 0 then (curtilageref10_word.l0 k x0 (wrap64 (x3 + 1))) else (curtilageref10_word.l0 k x0 (wrap64 (x3 + 1)))))))) else (none)) else (if (x0.size : Int) ≥ 1 then (some (decide ((x0.size : Int) ≤ 16))) else (some false))
def curtilageref10_word.f (k : Nat) (a0 : ByteArray) : Option (Bool) := curtilageref10_word.l0 k a0 0
set_option maxHeartbeats 8000000 in
set_option maxRecDepth 100000 in
theorem curtilageref10_word.calls (k : Nat) (a0 : ByteArray) (r : Bool) (w : World) (h : curtilageref10_word.f k a0 = some r) :
  Calls Tryz.prog 45 #[.string a0] w fun e w' => e = .returned (.bool r) ∧ Drawn0 w w' := by
 have H : (curtilageref10_word.l0 k a0 0) = some r := h
 clear h
 have H' := Q4 H
 clear H
 go_enter Tryz.func45, Tryz.ntmps45
 go_wp2
 go_loopg [3] k (fun kq v3 w' => ∃ (x3_1 : Int), v3 = .int .i64 x3_1 ∧ Aside0 (curtilageref10_word.l0 kq a0 x3_1 = some r) ∧ Aside0 (kq ≤ k) ∧ Drawn0 w w')
 case atStart => exact ⟨(0), (by first|rfl|(simp; done)|(simp [*]; done)), H', ⟨Nat.le_refl _⟩, by repeat (first|exact Drawn0.refl _|apply Drawn0.step)⟩
 case round =>
  clear H'
  obtain ⟨x3_1, rfl, HA, HK1, ⟨m1, rfl⟩⟩ := hrel
  cases gk with
  | zero => exact absurd HA.out (by simp [curtilageref10_word.l0])
  | succ k1 =>
   have H := HA.out
   clear HA
   simp only [curtilageref10_word.l0] at H
   by_cases c2 : x3_1 < (a0.size : Int)
   ·rw [if_pos c2] at H
    have c2b0 : decide (x3_1 < (a0.size : Int)) = true := Qj c2
    clear c2
    by_cases c3 : 0 ≤ x3_1
    ·rw [if_pos c3] at H
     have c3b0 : decide (0 ≤ x3_1) = true := Qj c3
     clear c3
     by_cases c5 : (bt a0 x3_1) ≥ 48
     ·rw [if_pos c5] at H
      have c5b0 : decide (48 ≤ (bt a0 x3_1)) = true := Qj c5
      clear c5
      by_cases c6 : ((bt a0 x3_1) ≤ 57)
      ·rw [if_pos c6] at H
       have c6b0 : decide ((bt a0 x3_1) ≤ 57) = true := Qj c6
       clear c6
       by_cases c7 : x3_1 = 0
       ·rw [if_pos c7] at H
        have c7b0 : (x3_1 == 0) = true := Qm c7
        have c7b1 : (x3_1 != 0) = false := Qh c7
        clear c7
        by_cases c8 : (bt a0 x3_1) ≤ 57
        ·rw [if_pos c8] at H
         have c8b0 : decide ((bt a0 x3_1) ≤ 57) = true := Qj c8
         clear c8
         obtain rfl := Qn H
         have p4 : 0 ≤ (x3_1 : Int) := Qc (by first|(with_reducible assumption)|assumption)
         have q4 : x3_1 < (a0.size : Int) := Qc (by first|(with_reducible assumption)|assumption)
         have hx4 := bt_at a0 x3_1
         replace p4 := eq_true p4
         replace q4 := eq_true q4
         go_wp2
         go_ret
         exact ⟨by first|rfl|(simp; done)|(simp [*]; done), by repeat (first|exact Drawn0.refl _|apply Drawn0.step)⟩
        ·exact absurd (Qc c6b0) c8
       ·rw [if_neg c7] at H
        have c7b0 : (x3_1 == 0) = false := Qk c7
        have c7b1 : (x3_1 != 0) = true := Ql c7
        have H' := Q4 H
        clear H
        have p4 : 0 ≤ (x3_1 : Int) := Qc (by first|(with_reducible assumption)|assumption)
        have q4 : x3_1 < (a0.size : Int) := Qc (by first|(with_reducible assumption)|assumption)
        have hx4 := bt_at a0 x3_1
        replace p4 := eq_true p4
        replace q4 := eq_true q4
        go_wp2
        go_roundg k1
        case measure => have := HK1.out; omega
        case rel => exact ⟨(wrap64 (x3_1 + 1)), (by first|rfl|(simp; done)|(simp [*]; done)), H', ⟨by have := HK1.out; omega⟩, by repeat (first|exact Drawn0.refl _|apply Drawn0.step)⟩
      ·rw [if_neg c6] at H
       have c6b0 : decide ((bt a0 x3_1) ≤ 57) = false := decide_eq_false c6
       clear c6
       by_cases c9 : (bt a0 x3_1) = 95
       ·rw [if_pos c9] at H
        have c9b0 : ((bt a0 x3_1) == 95) = true := Qm c9
        have c9b1 : ((bt a0 x3_1) != 95) = false := Qh c9
        clear c9
        by_cases c10 : x3_1 = 0
        ·rw [if_pos c10] at H
         have c10b0 : (x3_1 == 0) = true := Qm c10
         have c10b1 : (x3_1 != 0) = false := Qh c10
         clear c10
         by_cases c11 : (bt a0 x3_1) ≤ 57
         ·exact absurd c11 (of_decide_eq_false c6b0)
         ·rw [if_neg c11] at H
          have c11b0 : decide ((bt a0 x3_1) ≤ 57) = false := decide_eq_false c11
          clear c11
          have H' := Q4 H
          clear H
          have p4 : 0 ≤ (x3_1 : Int) := Qc (by first|(with_reducible assumption)|assumption)
          have q4 : x3_1 < (a0.size : Int) := Qc (by first|(with_reducible assumption)|assumption)
          have hx4 := bt_at a0 x3_1
          replace p4 := eq_true p4
          replace q4 := eq_true q4
          go_wp2
          go_roundg k1
          case measure => have := HK1.out; omega
          case rel => exact ⟨(wrap64 (x3_1 + 1)), (by first|rfl|(simp; done)|(simp [*]; done)), H', ⟨by have := HK1.out; omega⟩, by repeat (first|exact Drawn0.refl _|apply Drawn0.step)⟩
        ·rw [if_neg c10] at H
         have c10b0 : (x3_1 == 0) = false := Qk c10
         have c10b1 : (x3_1 != 0) = true := Ql c10
         have H' := Q4 H
         clear H
         have p4 : 0 ≤ (x3_1 : Int) := Qc (by first|(with_reducible assumption)|assumption)
         have q4 : x3_1 < (a0.size : Int) := Qc (by first|(with_reducible assumption)|assumption)
         have hx4 := bt_at a0 x3_1
         replace p4 := eq_true p4
         replace q4 := eq_true q4
         go_wp2
         go_roundg k1
         case measure => have := HK1.out; omega
         case rel => exact ⟨(wrap64 (x3_1 + 1)), (by first|rfl|(simp; done)|(simp [*]; done)), H', ⟨by have := HK1.out; omega⟩, by repeat (first|exact Drawn0.refl _|apply Drawn0.step)⟩
       ·rw [if_neg c9] at H
        have c9b0 : ((bt a0 x3_1) == 95) = false := Qk c9
        have c9b1 : ((bt a0 x3_1) != 95) = true := Ql c9
        by_cases c12 : (bt a0 x3_1) < 97
        ·rw [if_pos c12] at H
         have c12b0 : decide ((bt a0 x3_1) < 97) = true := Qj c12
         clear c12
         by_cases c13 : (bt a0 x3_1) < 65
         ·rw [if_pos c13] at H
          have c13b0 : decide ((bt a0 x3_1) < 65) = true := Qj c13
          clear c13
          obtain rfl := Qn H
          have p4 : 0 ≤ (x3_1 : Int) := Qc (by first|(with_reducible assumption)|assumption)
          have q4 : x3_1 < (a0.size : Int) := Qc (by first|(with_reducible assumption)|assumption)
          have hx4 := bt_at a0 x3_1
          replace p4 := eq_true p4
          replace q4 := eq_true q4
          go_wp2
          go_ret
          exact ⟨by first|rfl|(simp; done)|(simp [*]; done), by repeat (first|exact Drawn0.refl _|apply Drawn0.step)⟩
         ·rw [if_neg c13] at H
          have c13b0 : decide ((bt a0 x3_1) < 65) = false := decide_eq_false c13
          clear c13
          by_cases c14 : (bt a0 x3_1) > 90
          ·rw [if_pos c14] at H
           have c14b0 : decide (90 < (bt a0 x3_1)) = true := Qj c14
           clear c14
           obtain rfl := Qn H
           have p4 : 0 ≤ (x3_1 : Int) := Qc (by first|(with_reducible assumption)|assumption)
           have q4 : x3_1 < (a0.size : Int) := Qc (by first|(with_reducible assumption)|assumption)
           have hx4 := bt_at a0 x3_1
           replace p4 := eq_true p4
           replace q4 := eq_true q4
           go_wp2
           go_ret
           exact ⟨by first|rfl|(simp; done)|(simp [*]; done), by repeat (first|exact Drawn0.refl _|apply Drawn0.step)⟩
          ·rw [if_neg c14] at H
           have c14b0 : decide (90 < (bt a0 x3_1)) = false := decide_eq_false c14
           clear c14
           by_cases c15 : x3_1 = 0
           ·rw [if_pos c15] at H
            have c15b0 : (x3_1 == 0) = true := Qm c15
            have c15b1 : (x3_1 != 0) = false := Qh c15
            clear c15
            by_cases c16 : (bt a0 x3_1) ≤ 57
            ·exact absurd c16 (of_decide_eq_false c6b0)
            ·rw [if_neg c16] at H
             have c16b0 : decide ((bt a0 x3_1) ≤ 57) = false := decide_eq_false c16
             clear c16
             have H' := Q4 H
             clear H
             have p4 : 0 ≤ (x3_1 : Int) := Qc (by first|(with_reducible assumption)|assumption)
             have q4 : x3_1 < (a0.size : Int) := Qc (by first|(with_reducible assumption)|assumption)
             have hx4 := bt_at a0 x3_1
             replace p4 := eq_true p4
             replace q4 := eq_true q4
             go_wp2
             go_roundg k1
             case measure => have := HK1.out; omega
             case rel => exact ⟨(wrap64 (x3_1 + 1)), (by first|rfl|(simp; done)|(simp [*]; done)), H', ⟨by have := HK1.out; omega⟩, by repeat (first|exact Drawn0.refl _|apply Drawn0.step)⟩
           ·rw [if_neg c15] at H
            have c15b0 : (x3_1 == 0) = false := Qk c15
            have c15b1 : (x3_1 != 0) = true := Ql c15
            have H' := Q4 H
            clear H
            have p4 : 0 ≤ (x3_1 : Int) := Qc (by first|(with_reducible assumption)|assumption)
            have q4 : x3_1 < (a0.size : Int) := Qc (by first|(with_reducible assumption)|assumption)
            have hx4 := bt_at a0 x3_1
            replace p4 := eq_true p4
            replace q4 := eq_true q4
            go_wp2
            go_roundg k1
            case measure => have := HK1.out; omega
            case rel => exact ⟨(wrap64 (x3_1 + 1)), (by first|rfl|(simp; done)|(simp [*]; done)), H', ⟨by have := HK1.out; omega⟩, by repeat (first|exact Drawn0.refl _|apply Drawn0.step)⟩
        ·rw [if_neg c12] at H
         have c12b0 : decide ((bt a0 x3_1) < 97) = false := decide_eq_false c12
         clear c12
         by_cases c17 : (bt a0 x3_1) > 122
         ·rw [if_pos c17] at H
          have c17b0 : decide (122 < (bt a0 x3_1)) = true := Qj c17
          clear c17
          by_cases c18 : (bt a0 x3_1) < 65
          ·rw [if_pos c18] at H
           have c18b0 : decide ((bt a0 x3_1) < 65) = true := Qj c18
           clear c18
           obtain rfl := Qn H
           have p4 : 0 ≤ (x3_1 : Int) := Qc (by first|(with_reducible assumption)|assumption)
           have q4 : x3_1 < (a0.size : Int) := Qc (by first|(with_reducible assumption)|assumption)
           have hx4 := bt_at a0 x3_1
           replace p4 := eq_true p4
           replace q4 := eq_true q4
           go_wp2
           go_ret
           exact ⟨by first|rfl|(simp; done)|(simp [*]; done), by repeat (first|exact Drawn0.refl _|apply Drawn0.step)⟩
          ·rw [if_neg c18] at H
           have c18b0 : decide ((bt a0 x3_1) < 65) = false := decide_eq_false c18
           clear c18
           by_cases c19 : (bt a0 x3_1) > 90
           ·rw [if_pos c19] at H
            have c19b0 : decide (90 < (bt a0 x3_1)) = true := Qj c19
            clear c19
            obtain rfl := Qn H
            have p4 : 0 ≤ (x3_1 : Int) := Qc (by first|(with_reducible assumption)|assumption)
            have q4 : x3_1 < (a0.size : Int) := Qc (by first|(with_reducible assumption)|assumption)
            have hx4 := bt_at a0 x3_1
            replace p4 := eq_true p4
            replace q4 := eq_true q4
            go_wp2
            go_ret
            exact ⟨by first|rfl|(simp; done)|(simp [*]; done), by repeat (first|exact Drawn0.refl _|apply Drawn0.step)⟩
           ·rw [if_neg c19] at H
            have c19b0 : decide (90 < (bt a0 x3_1)) = false := decide_eq_false c19
            clear c19
            by_cases c20 : x3_1 = 0
            ·rw [if_pos c20] at H
             have c20b0 : (x3_1 == 0) = true := Qm c20
             have c20b1 : (x3_1 != 0) = false := Qh c20
             clear c20
             by_cases c21 : (bt a0 x3_1) ≤ 57
             ·exact absurd c21 (of_decide_eq_false c6b0)
             ·rw [if_neg c21] at H
              have c21b0 : decide ((bt a0 x3_1) ≤ 57) = false := decide_eq_false c21
              clear c21
              have H' := Q4 H
              clear H
              have p4 : 0 ≤ (x3_1 : Int) := Qc (by first|(with_reducible assumption)|assumption)
              have q4 : x3_1 < (a0.size : Int) := Qc (by first|(with_reducible assumption)|assumption)
              have hx4 := bt_at a0 x3_1
              replace p4 := eq_true p4
              replace q4 := eq_true q4
              go_wp2
              go_roundg k1
              case measure => have := HK1.out; omega
              case rel => exact ⟨(wrap64 (x3_1 + 1)), (by first|rfl|(simp; done)|(simp [*]; done)), H', ⟨by have := HK1.out; omega⟩, by repeat (first|exact Drawn0.refl _|apply Drawn0.step)⟩
            ·rw [if_neg c20] at H
             have c20b0 : (x3_1 == 0) = false := Qk c20
             have c20b1 : (x3_1 != 0) = true := Ql c20
             have H' := Q4 H
             clear H
             have p4 : 0 ≤ (x3_1 : Int) := Qc (by first|(with_reducible assumption)|assumption)
             have q4 : x3_1 < (a0.size : Int) := Qc (by first|(with_reducible assumption)|assumption)
             have hx4 := bt_at a0 x3_1
             replace p4 := eq_true p4
             replace q4 := eq_true q4
             go_wp2
             go_roundg k1
             case measure => have := HK1.out; omega
             case rel => exact ⟨(wrap64 (x3_1 + 1)), (by first|rfl|(simp; done)|(simp [*]; done)), H', ⟨by have := HK1.out; omega⟩, by repeat (first|exact Drawn0.refl _|apply Drawn0.step)⟩
         ·rw [if_neg c17] at H
          have c17b0 : decide (122 < (bt a0 x3_1)) = false := decide_eq_false c17
          clear c17
          by_cases c22 : x3_1 = 0
          ·rw [if_pos c22] at H
           have c22b0 : (x3_1 == 0) = true := Qm c22
           have c22b1 : (x3_1 != 0) = false := Qh c22
           clear c22
           by_cases c23 : (bt a0 x3_1) ≤ 57
           ·exact absurd c23 (of_decide_eq_false c6b0)
           ·rw [if_neg c23] at H
            have c23b0 : decide ((bt a0 x3_1) ≤ 57) = false := decide_eq_false c23
            clear c23
            have H' := Q4 H
            clear H
            have p4 : 0 ≤ (x3_1 : Int) := Qc (by first|(with_reducible assumption)|assumption)
            have q4 : x3_1 < (a0.size : Int) := Qc (by first|(with_reducible assumption)|assumption)
            have hx4 := bt_at a0 x3_1
            replace p4 := eq_true p4
            replace q4 := eq_true q4
            go_wp2
            go_roundg k1
            case measure => have := HK1.out; omega
            case rel => exact ⟨(wrap64 (x3_1 + 1)), (by first|rfl|(simp; done)|(simp [*]; done)), H', ⟨by have := HK1.out; omega⟩, by repeat (first|exact Drawn0.refl _|apply Drawn0.step)⟩
          ·rw [if_neg c22] at H
           have c22b0 : (x3_1 == 0) = false := Qk c22
           have c22b1 : (x3_1 != 0) = true := Ql c22
           have H' := Q4 H
           clear H
           have p4 : 0 ≤ (x3_1 : Int) := Qc (by first|(with_reducible assumption)|assumption)
           have q4 : x3_1 < (a0.size : Int) := Qc (by first|(with_reducible assumption)|assumption)
           have hx4 := bt_at a0 x3_1
           replace p4 := eq_true p4
           replace q4 := eq_true q4
           go_wp2
           go_roundg k1
           case measure => have := HK1.out; omega
           case rel => exact ⟨(wrap64 (x3_1 + 1)), (by first|rfl|(simp; done)|(simp [*]; done)), H', ⟨by have := HK1.out; omega⟩, by repeat (first|exact Drawn0.refl _|apply Drawn0.step)⟩
     ·rw [if_neg c5] at H
      have c5b0 : decide (48 ≤ (bt a0 x3_1)) = false := decide_eq_false c5
      clear c5
      by_cases c24 : (bt a0 x3_1) = 95
      ·rw [if_pos c24] at H
       have c24b0 : ((bt a0 x3_1) == 95) = true := Qm c24
       have c24b1 : ((bt a0 x3_1) != 95) = false := Qh c24
       clear c24
       by_cases c25 : x3_1 = 0
       ·rw [if_pos c25] at H
        have c25b0 : (x3_1 == 0) = true := Qm c25
        have c25b1 : (x3_1 != 0) = false := Qh c25
        clear c25
        have H' := Q4 H
        clear H
        have p4 : 0 ≤ (x3_1 : Int) := Qc (by first|(with_reducible assumption)|assumption)
        have q4 : x3_1 < (a0.size : Int) := Qc (by first|(with_reducible assumption)|assumption)
        have hx4 := bt_at a0 x3_1
        replace p4 := eq_true p4
        replace q4 := eq_true q4
        go_wp2
        go_roundg k1
        case measure => have := HK1.out; omega
        case rel => exact ⟨(wrap64 (x3_1 + 1)), (by first|rfl|(simp; done)|(simp [*]; done)), H', ⟨by have := HK1.out; omega⟩, by repeat (first|exact Drawn0.refl _|apply Drawn0.step)⟩
       ·rw [if_neg c25] at H
        have c25b0 : (x3_1 == 0) = false := Qk c25
        have c25b1 : (x3_1 != 0) = true := Ql c25
        have H' := Q4 H
        clear H
        have p4 : 0 ≤ (x3_1 : Int) := Qc (by first|(with_reducible assumption)|assumption)
        have q4 : x3_1 < (a0.size : Int) := Qc (by first|(with_reducible assumption)|assumption)
        have hx4 := bt_at a0 x3_1
        replace p4 := eq_true p4
        replace q4 := eq_true q4
        go_wp2
        go_roundg k1
        case measure => have := HK1.out; omega
        case rel => exact ⟨(wrap64 (x3_1 + 1)), (by first|rfl|(simp; done)|(simp [*]; done)), H', ⟨by have := HK1.out; omega⟩, by repeat (first|exact Drawn0.refl _|apply Drawn0.step)⟩
      ·rw [if_neg c24] at H
       have c24b0 : ((bt a0 x3_1) == 95) = false := Qk c24
       have c24b1 : ((bt a0 x3_1) != 95) = true := Ql c24
       by_cases c26 : (bt a0 x3_1) < 97
       ·rw [if_pos c26] at H
        have c26b0 : decide ((bt a0 x3_1) < 97) = true := Qj c26
        clear c26
        by_cases c27 : (bt a0 x3_1) < 65
        ·rw [if_pos c27] at H
         have c27b0 : decide ((bt a0 x3_1) < 65) = true := Qj c27
         clear c27
         obtain rfl := Qn H
         have p4 : 0 ≤ (x3_1 : Int) := Qc (by first|(with_reducible assumption)|assumption)
         have q4 : x3_1 < (a0.size : Int) := Qc (by first|(with_reducible assumption)|assumption)
         have hx4 := bt_at a0 x3_1
         replace p4 := eq_true p4
         replace q4 := eq_true q4
         go_wp2
         go_ret
         exact ⟨by first|rfl|(simp; done)|(simp [*]; done), by repeat (first|exact Drawn0.refl _|apply Drawn0.step)⟩
        ·rw [if_neg c27] at H
         have c27b0 : decide ((bt a0 x3_1) < 65) = false := decide_eq_false c27
         clear c27
         by_cases c28 : (bt a0 x3_1) > 90
         ·rw [if_pos c28] at H
          have c28b0 : decide (90 < (bt a0 x3_1)) = true := Qj c28
          clear c28
          obtain rfl := Qn H
          have p4 : 0 ≤ (x3_1 : Int) := Qc (by first|(with_reducible assumption)|assumption)
          have q4 : x3_1 < (a0.size : Int) := Qc (by first|(with_reducible assumption)|assumption)
          have hx4 := bt_at a0 x3_1
          replace p4 := eq_true p4
          replace q4 := eq_true q4
          go_wp2
          go_ret
          exact ⟨by first|rfl|(simp; done)|(simp [*]; done), by repeat (first|exact Drawn0.refl _|apply Drawn0.step)⟩
         ·rw [if_neg c28] at H
          have c28b0 : decide (90 < (bt a0 x3_1)) = false := decide_eq_false c28
          clear c28
          by_cases c29 : x3_1 = 0
          ·rw [if_pos c29] at H
           have c29b0 : (x3_1 == 0) = true := Qm c29
           have c29b1 : (x3_1 != 0) = false := Qh c29
           clear c29
           have H' := Q4 H
           clear H
           have p4 : 0 ≤ (x3_1 : Int) := Qc (by first|(with_reducible assumption)|assumption)
           have q4 : x3_1 < (a0.size : Int) := Qc (by first|(with_reducible assumption)|assumption)
           have hx4 := bt_at a0 x3_1
           replace p4 := eq_true p4
           replace q4 := eq_true q4
           go_wp2
           go_roundg k1
           case measure => have := HK1.out; omega
           case rel => exact ⟨(wrap64 (x3_1 + 1)), (by first|rfl|(simp; done)|(simp [*]; done)), H', ⟨by have := HK1.out; omega⟩, by repeat (first|exact Drawn0.refl _|apply Drawn0.step)⟩
          ·rw [if_neg c29] at H
           have c29b0 : (x3_1 == 0) = false := Qk c29
           have c29b1 : (x3_1 != 0) = true := Ql c29
           have H' := Q4 H
           clear H
           have p4 : 0 ≤ (x3_1 : Int) := Qc (by first|(with_reducible assumption)|assumption)
           have q4 : x3_1 < (a0.size : Int) := Qc (by first|(with_reducible assumption)|assumption)
           have hx4 := bt_at a0 x3_1
           replace p4 := eq_true p4
           replace q4 := eq_true q4
           go_wp2
           go_roundg k1
           case measure => have := HK1.out; omega
           case rel => exact ⟨(wrap64 (x3_1 + 1)), (by first|rfl|(simp; done)|(simp [*]; done)), H', ⟨by have := HK1.out; omega⟩, by repeat (first|exact Drawn0.refl _|apply Drawn0.step)⟩
       ·rw [if_neg c26] at H
        have c26b0 : decide ((bt a0 x3_1) < 97) = false := decide_eq_false c26
        clear c26
        by_cases c30 : (bt a0 x3_1) > 122
        ·rw [if_pos c30] at H
         have c30b0 : decide (122 < (bt a0 x3_1)) = true := Qj c30
         clear c30
         by_cases c31 : (bt a0 x3_1) < 65
         ·rw [if_pos c31] at H
          have c31b0 : decide ((bt a0 x3_1) < 65) = true := Qj c31
          clear c31
          obtain rfl := Qn H
          have p4 : 0 ≤ (x3_1 : Int) := Qc (by first|(with_reducible assumption)|assumption)
          have q4 : x3_1 < (a0.size : Int) := Qc (by first|(with_reducible assumption)|assumption)
          have hx4 := bt_at a0 x3_1
          replace p4 := eq_true p4
          replace q4 := eq_true q4
          go_wp2
          go_ret
          exact ⟨by first|rfl|(simp; done)|(simp [*]; done), by repeat (first|exact Drawn0.refl _|apply Drawn0.step)⟩
         ·rw [if_neg c31] at H
          have c31b0 : decide ((bt a0 x3_1) < 65) = false := decide_eq_false c31
          clear c31
          by_cases c32 : (bt a0 x3_1) > 90
          ·rw [if_pos c32] at H
           have c32b0 : decide (90 < (bt a0 x3_1)) = true := Qj c32
           clear c32
           obtain rfl := Qn H
           have p4 : 0 ≤ (x3_1 : Int) := Qc (by first|(with_reducible assumption)|assumption)
           have q4 : x3_1 < (a0.size : Int) := Qc (by first|(with_reducible assumption)|assumption)
           have hx4 := bt_at a0 x3_1
           replace p4 := eq_true p4
           replace q4 := eq_true q4
           go_wp2
           go_ret
           exact ⟨by first|rfl|(simp; done)|(simp [*]; done), by repeat (first|exact Drawn0.refl _|apply Drawn0.step)⟩
          ·rw [if_neg c32] at H
           have c32b0 : decide (90 < (bt a0 x3_1)) = false := decide_eq_false c32
           clear c32
           by_cases c33 : x3_1 = 0
           ·rw [if_pos c33] at H
            have c33b0 : (x3_1 == 0) = true := Qm c33
            have c33b1 : (x3_1 != 0) = false := Qh c33
            clear c33
            have H' := Q4 H
            clear H
            have p4 : 0 ≤ (x3_1 : Int) := Qc (by first|(with_reducible assumption)|assumption)
            have q4 : x3_1 < (a0.size : Int) := Qc (by first|(with_reducible assumption)|assumption)
            have hx4 := bt_at a0 x3_1
            replace p4 := eq_true p4
            replace q4 := eq_true q4
            go_wp2
            go_roundg k1
            case measure => have := HK1.out; omega
            case rel => exact ⟨(wrap64 (x3_1 + 1)), (by first|rfl|(simp; done)|(simp [*]; done)), H', ⟨by have := HK1.out; omega⟩, by repeat (first|exact Drawn0.refl _|apply Drawn0.step)⟩
           ·rw [if_neg c33] at H
            have c33b0 : (x3_1 == 0) = false := Qk c33
            have c33b1 : (x3_1 != 0) = true := Ql c33
            have H' := Q4 H
            clear H
            have p4 : 0 ≤ (x3_1 : Int) := Qc (by first|(with_reducible assumption)|assumption)
            have q4 : x3_1 < (a0.size : Int) := Qc (by first|(with_reducible assumption)|assumption)
            have hx4 := bt_at a0 x3_1
            replace p4 := eq_true p4
            replace q4 := eq_true q4
            go_wp2
            go_roundg k1
            case measure => have := HK1.out; omega
            case rel => exact ⟨(wrap64 (x3_1 + 1)), (by first|rfl|(simp; done)|(simp [*]; done)), H', ⟨by have := HK1.out; omega⟩, by repeat (first|exact Drawn0.refl _|apply Drawn0.step)⟩
        ·rw [if_neg c30] at H
         have c30b0 : decide (122 < (bt a0 x3_1)) = false := decide_eq_false c30
         clear c30
         by_cases c34 : x3_1 = 0
         ·rw [if_pos c34] at H
          have c34b0 : (x3_1 == 0) = true := Qm c34
          have c34b1 : (x3_1 != 0) = false := Qh c34
          clear c34
          have H' := Q4 H
          clear H
          have p4 : 0 ≤ (x3_1 : Int) := Qc (by first|(with_reducible assumption)|assumption)
          have q4 : x3_1 < (a0.size : Int) := Qc (by first|(with_reducible assumption)|assumption)
          have hx4 := bt_at a0 x3_1
          replace p4 := eq_true p4
          replace q4 := eq_true q4
          go_wp2
          go_roundg k1
          case measure => have := HK1.out; omega
          case rel => exact ⟨(wrap64 (x3_1 + 1)), (by first|rfl|(simp; done)|(simp [*]; done)), H', ⟨by have := HK1.out; omega⟩, by repeat (first|exact Drawn0.refl _|apply Drawn0.step)⟩
         ·rw [if_neg c34] at H
          have c34b0 : (x3_1 == 0) = false := Qk c34
          have c34b1 : (x3_1 != 0) = true := Ql c34
          have H' := Q4 H
          clear H
          have p4 : 0 ≤ (x3_1 : Int) := Qc (by first|(with_reducible assumption)|assumption)
          have q4 : x3_1 < (a0.size : Int) := Qc (by first|(with_reducible assumption)|assumption)
          have hx4 := bt_at a0 x3_1
          replace p4 := eq_true p4
          replace q4 := eq_true q4
          go_wp2
          go_roundg k1
          case measure => have := HK1.out; omega
          case rel => exact ⟨(wrap64 (x3_1 + 1)), (by first|rfl|(simp; done)|(simp [*]; done)), H', ⟨by have := HK1.out; omega⟩, by repeat (first|exact Drawn0.refl _|apply Drawn0.step)⟩
    ·rw [if_neg c3] at H
     exact absurd H (by simp)
   ·rw [if_neg c2] at H
    have c2b0 : decide (x3_1 < (a0.size : Int)) = false := decide_eq_false c2
    clear c2
    by_cases c35 : (a0.size : Int) ≥ 1
    ·rw [if_pos c35] at H
     have c35b0 : decide (1 ≤ (a0.size : Int)) = true := Qj c35
     have c35b1 : decide (1 ≤ a0.size) = true := Qj (by omega)
     clear c35
     obtain rfl := Qn H
     go_wp2
     go_ret
     exact ⟨by first|rfl|(simp; done)|(simp [*]; done), by repeat (first|exact Drawn0.refl _|apply Drawn0.step)⟩
    ·rw [if_neg c35] at H
     have c35b0 : decide (1 ≤ (a0.size : Int)) = false := decide_eq_false c35
     have c35b1 : decide (1 ≤ a0.size) = false := decide_eq_false (by omega)
     clear c35
     obtain rfl := Qn H
     go_wp2
     go_ret
     exact ⟨by first|rfl|(simp; done)|(simp [*]; done), by repeat (first|exact Drawn0.refl _|apply Drawn0.step)⟩

end Go.Proofs.YtbelnkdbghggmaaGreatDoor.X
namespace Go.Proofs.YtbelnkdbghggmaaGreatDoor.X
open Go.RowKit Go.Proofs.YtbelnkdbghggmaaGreatDoorW.PrintWords Go.Proofs.YtbelnkdbghggmaaGreatDoorW.PrintLast

set_option linter.unusedVariables false
set_option linter.unusedSimpArgs false

attribute [local go_sem high] eqA38
/-! ### curtilageref10_goes: function 47 -/
def curtilageref10_goes.f (a0 : Int) : Option (Bool) := if a0 = 18 then (some true) else (if a0 = 19 then (some true) else (if a0 = 20 then (some true) else (some (a0 == 21))))
set_option maxHeartbeats 8000000 in
set_option maxRecDepth 100000 in
theorem curtilageref10_goes.calls (a0 : Int) (r : Bool) (w : World) (h : curtilageref10_goes.f a0 = some r) :
  Calls Tryz.prog 47 #[.int .i64 a0] w fun e w' => e = .returned (.bool r) ∧ Drawn0 w w' := by
 have H : (if a0 = 18 then (some true) else (if a0 = 19 then (some true) else (if a0 = 20 then (some true) else (some (a0 == 21))))) = some r := h
 clear h
 by_cases c2 : a0 = 18
 ·rw [if_pos c2] at H
  have c2b0 : (a0 == 18) = true := Qm c2
  have c2b1 : (a0 != 18) = false := Qh c2
  clear c2
  obtain rfl := Qn H
  go_enter Tryz.func47, Tryz.ntmps47
  go_wp2
  go_ret
  exact ⟨by first|rfl|(simp; done)|(simp [*]; done), by repeat (first|exact Drawn0.refl _|apply Drawn0.step)⟩
 ·rw [if_neg c2] at H
  have c2b0 : (a0 == 18) = false := Qk c2
  have c2b1 : (a0 != 18) = true := Ql c2
  by_cases c3 : a0 = 19
  ·rw [if_pos c3] at H
   have c3b0 : (a0 == 19) = true := Qm c3
   have c3b1 : (a0 != 19) = false := Qh c3
   clear c3
   obtain rfl := Qn H
   go_enter Tryz.func47, Tryz.ntmps47
   go_wp2
   go_ret
   exact ⟨by first|rfl|(simp; done)|(simp [*]; done), by repeat (first|exact Drawn0.refl _|apply Drawn0.step)⟩
  ·rw [if_neg c3] at H
   have c3b0 : (a0 == 19) = false := Qk c3
   have c3b1 : (a0 != 19) = true := Ql c3
   by_cases c4 : a0 = 20
   ·rw [if_pos c4] at H
    have c4b0 : (a0 == 20) = true := Qm c4
    have c4b1 : (a0 != 20) = false := Qh c4
    clear c4
    obtain rfl := Qn H
    go_enter Tryz.func47, Tryz.ntmps47
    go_wp2
    go_ret
    exact ⟨by first|rfl|(simp; done)|(simp [*]; done), by repeat (first|exact Drawn0.refl _|apply Drawn0.step)⟩
   ·rw [if_neg c4] at H
    have c4b0 : (a0 == 20) = false := Qk c4
    have c4b1 : (a0 != 20) = true := Ql c4
    obtain rfl := Qn H
    go_enter Tryz.func47, Tryz.ntmps47
    go_wp2
    go_ret
    exact ⟨by first|rfl|(simp; done)|(simp [*]; done), by repeat (first|exact Drawn0.refl _|apply Drawn0.step)⟩

/-! ### curtilageref10_good: function 21 -/
def curtilageref10_good.f (k : Nat) (a0_0 : ByteArray) (a0_1 : Int) (a0_2 : Int) (a0_3 : Int) (a0_4 : Int) (a0_5 : Int) (a0_6 : ByteArray) : Option (Bool) := if a0_0.toList = ([] : List UInt8) then ((curtilageref08_Fit.f k a0_1 a0_2 a0_3 a0_4 a0_5).bind fun t151 => (if t151 = true then (if a0_6.toList = ([] : List UInt8) then (some true) else ((curtilageref10_word.f k a0_6).bind fun t152 => (if t152 = true then ((curtilageref10_goes.f a0_1).bind fun t153 => (if t153 = true then (if a0_5 = 0 then (some true) else (some (a0_1 == 1))) else (some (a0_1 == 1)))) else (some false)))) else (some false))) else ((curtilageref10_word.f k a0_0).bind fun t150 => (if t150 = true then (if a0_6.toList = ([] : List UInt8) then (some (a0_1 == 0 && (a0_2 == 0 && (a0_3 == 0 && (a0_4 == 0 && (a0_5 == 0)))))) else (some false)) else (some false)))
set_option maxHeartbeats 8000000 in
set_option maxRecDepth 100000 in
theorem curtilageref10_good.calls (k : Nat) (a0_0 : ByteArray) (a0_1 : Int) (a0_2 : Int) (a0_3 : Int) (a0_4 : Int) (a0_5 : Int) (a0_6 : ByteArray) (r : Bool) (w : World) (h : curtilageref10_good.f k a0_0 a0_1 a0_2 a0_3 a0_4 a0_5 a0_6 = some r) :
  Calls Tryz.prog 21 #[.agg #[.string a0_0, .int .i64 a0_1, .int .i64 a0_2, .int .i64 a0_3, .int .i64 a0_4, .int .i32 a0_5, .string a0_6]] w fun e w' => e = .returned (.bool r) ∧ Below w.heap.size w w' := by
 have hu40 := Tryz.underlying40
 have hu38 := Tryz.underlying38
 have HB := Q4 (Below.refl w.heap.size w)
 have H := h
 unfold curtilageref10_good.f at H
 clear h
 by_cases c2 : a0_0.toList = ([] : List UInt8)
 ·rw [if_pos c2] at H
  have c2b0 : (a0_0.toList == ([] : List UInt8)) = true := Qm c2
  have c2b1 : (a0_0.toList != ([] : List UInt8)) = false := Qh c2
  clear c2
  replace H := Qi H
  obtain ⟨t151, A30, H⟩ := H
  try dsimp only at H
  have A3 := Q4 A30
  clear A30
  by_cases c4 : t151 = true
  ·subst c4
   rw [if_pos rfl] at H
   by_cases c5 : a0_6.toList = ([] : List UInt8)
   ·rw [if_pos c5] at H
    have c5b0 : (a0_6.toList == ([] : List UInt8)) = true := Qm c5
    have c5b1 : (a0_6.toList != ([] : List UInt8)) = false := Qh c5
    clear c5
    obtain rfl := Qn H
    go_enter Tryz.func21, Tryz.ntmps21
    go_wp2_with (first|((with_reducible refine gate_dst (N := 1) rfl ?_); refine box_event ?hg (N := 1) ?hd (cs := #[.string a0_0, .int .i64 a0_1, .int .i64 a0_2, .int .i64 a0_3, .int .i64 a0_4, .int .i32 a0_5, .string a0_6]) (t := 40) ?hr ?_; (case hd => rfl); (case hg => rfl); (case hr => first|(go_simp; done)|(go_simp; rfl)); intro gb149 hg w6 hbox hb; have n0_ := Q4 (Qg (by repeat (first|(with_reducible first|exact HB.out|apply Q8|apply Q5|apply Q9)|exact HB.out)) hb); have n1_ := Q4 (hbox); have n2_ := Q4 ((by rw [hg]; exact bZ : w.heap.size ≤ gb149)); have n3_ := Q4 ((by rw [hg]; exact bZ : w.heap.size ≤ gb149)); clear HB; have HB := n0_; have BK149 := n1_; have GW149 := n2_; have GE149 := n3_; clear n0_ n1_ n2_ n3_; clear hb hbox hg; have hcz7_0 : w6.cell? ⟨gb149, 0, none⟩ = some (.string a0_0) := (Qe BK149.out 0).trans rfl; have hcz7_1 : w6.cell? ⟨gb149, 1, none⟩ = some (.int .i64 a0_1) := (Qe BK149.out 1).trans rfl; have hcz7_2 : w6.cell? ⟨gb149, 2, none⟩ = some (.int .i64 a0_2) := (Qe BK149.out 2).trans rfl; have hcz7_3 : w6.cell? ⟨gb149, 3, none⟩ = some (.int .i64 a0_3) := (Qe BK149.out 3).trans rfl; have hcz7_4 : w6.cell? ⟨gb149, 4, none⟩ = some (.int .i64 a0_4) := (Qe BK149.out 4).trans rfl; have hcz7_5 : w6.cell? ⟨gb149, 5, none⟩ = some (.int .i32 a0_5) := (Qe BK149.out 5).trans rfl; have hcz7_6 : w6.cell? ⟨gb149, 6, none⟩ = some (.string a0_6) := (Qe BK149.out 6).trans rfl; have hfz7_0 := Qd BK149.out 0; have hfz7_1 := Qd BK149.out 1; have hfz7_2 := Qd BK149.out 2; have hfz7_3 := Qd BK149.out 3; have hfz7_4 := Qd BK149.out 4; have hfz7_5 := Qd BK149.out 5; have hfz7_6 := Qd BK149.out 6)|((with_reducible refine gate_callee (f := 46) rfl ?_); refine gL (some 22) Tryz.func46 #[.agg #[.int .i64 a0_1, .int .i64 a0_2, .int .i64 a0_3, .int .i64 a0_4, .int .i32 a0_5]] ?_; (with_reducible refine (curtilageref08_Fit.calls k a0_1 a0_2 a0_3 a0_4 a0_5 true _ A3.out).mono ?_); rintro e w8 ⟨rfl, hb⟩; refine ⟨_, rfl, ?_⟩; have n0_ := Q4 (Qo (g := gb149) (o := .cells #[.string a0_0, .int .i64 a0_1, .int .i64 a0_2, .int .i64 a0_3, .int .i64 a0_4, .int .i32 a0_5, .string a0_6] 40 (0, 0)) (bK BK149) hb); have n1_ := Q4 (Qg (by repeat (first|(with_reducible first|exact HB.out|apply Q8|apply Q5|apply Q9|refine Q6 ?_ GE149.out)|exact HB.out)) hb); clear BK149; clear HB; have BK149 := n0_; have HB := n1_; clear n0_ n1_;(try clear hb);(try clear hb2);(try clear hk);(try clear hi); have hcz9_0 : w8.cell? ⟨gb149, 0, none⟩ = some (.string a0_0) := (Qe BK149.out 0).trans rfl; have hcz9_1 : w8.cell? ⟨gb149, 1, none⟩ = some (.int .i64 a0_1) := (Qe BK149.out 1).trans rfl; have hcz9_2 : w8.cell? ⟨gb149, 2, none⟩ = some (.int .i64 a0_2) := (Qe BK149.out 2).trans rfl; have hcz9_3 : w8.cell? ⟨gb149, 3, none⟩ = some (.int .i64 a0_3) := (Qe BK149.out 3).trans rfl; have hcz9_4 : w8.cell? ⟨gb149, 4, none⟩ = some (.int .i64 a0_4) := (Qe BK149.out 4).trans rfl; have hcz9_5 : w8.cell? ⟨gb149, 5, none⟩ = some (.int .i32 a0_5) := (Qe BK149.out 5).trans rfl; have hcz9_6 : w8.cell? ⟨gb149, 6, none⟩ = some (.string a0_6) := (Qe BK149.out 6).trans rfl; have hfz9_0 := Qd BK149.out 0; have hfz9_1 := Qd BK149.out 1; have hfz9_2 := Qd BK149.out 2; have hfz9_3 := Qd BK149.out 3; have hfz9_4 := Qd BK149.out 4; have hfz9_5 := Qd BK149.out 5; have hfz9_6 := Qd BK149.out 6))
    go_ret
    exact ⟨by first|rfl|(simp [errW_none, errW_some] <;> rfl)|(simp [*, errW_none, errW_some] <;> rfl), by repeat (first|(with_reducible first|exact HB.out|apply Q8|apply Q5|apply Q9|refine Q6 ?_ GE149.out)|exact HB.out)⟩
   ·rw [if_neg c5] at H
    have c5b0 : (a0_6.toList == ([] : List UInt8)) = false := Qk c5
    have c5b1 : (a0_6.toList != ([] : List UInt8)) = true := Ql c5
    replace H := Qi H
    obtain ⟨t152, A100, H⟩ := H
    try dsimp only at H
    have A10 := Q4 A100
    clear A100
    by_cases c11 : t152 = true
    ·subst c11
     rw [if_pos rfl] at H
     replace H := Qi H
     obtain ⟨t153, A120, H⟩ := H
     try dsimp only at H
     have A12 := Q4 A120
     clear A120
     by_cases c13 : t153 = true
     ·subst c13
      rw [if_pos rfl] at H
      by_cases c14 : a0_5 = 0
      ·rw [if_pos c14] at H
       have c14b0 : (a0_5 == 0) = true := Qm c14
       have c14b1 : (a0_5 != 0) = false := Qh c14
       clear c14
       obtain rfl := Qn H
       go_enter Tryz.func21, Tryz.ntmps21
       go_wp2_with (first|((with_reducible refine gate_dst (N := 1) rfl ?_); refine box_event ?hg (N := 1) ?hd (cs := #[.string a0_0, .int .i64 a0_1, .int .i64 a0_2, .int .i64 a0_3, .int .i64 a0_4, .int .i32 a0_5, .string a0_6]) (t := 40) ?hr ?_; (case hd => rfl); (case hg => rfl); (case hr => first|(go_simp; done)|(go_simp; rfl)); intro gb149 hg w15 hbox hb; have n0_ := Q4 (Qg (by repeat (first|(with_reducible first|exact HB.out|apply Q8|apply Q5|apply Q9)|exact HB.out)) hb); have n1_ := Q4 (hbox); have n2_ := Q4 ((by rw [hg]; exact bZ : w.heap.size ≤ gb149)); have n3_ := Q4 ((by rw [hg]; exact bZ : w.heap.size ≤ gb149)); clear HB; have HB := n0_; have BK149 := n1_; have GW149 := n2_; have GE149 := n3_; clear n0_ n1_ n2_ n3_; clear hb hbox hg; have hcz16_0 : w15.cell? ⟨gb149, 0, none⟩ = some (.string a0_0) := (Qe BK149.out 0).trans rfl; have hcz16_1 : w15.cell? ⟨gb149, 1, none⟩ = some (.int .i64 a0_1) := (Qe BK149.out 1).trans rfl; have hcz16_2 : w15.cell? ⟨gb149, 2, none⟩ = some (.int .i64 a0_2) := (Qe BK149.out 2).trans rfl; have hcz16_3 : w15.cell? ⟨gb149, 3, none⟩ = some (.int .i64 a0_3) := (Qe BK149.out 3).trans rfl; have hcz16_4 : w15.cell? ⟨gb149, 4, none⟩ = some (.int .i64 a0_4) := (Qe BK149.out 4).trans rfl; have hcz16_5 : w15.cell? ⟨gb149, 5, none⟩ = some (.int .i32 a0_5) := (Qe BK149.out 5).trans rfl; have hcz16_6 : w15.cell? ⟨gb149, 6, none⟩ = some (.string a0_6) := (Qe BK149.out 6).trans rfl; have hfz16_0 := Qd BK149.out 0; have hfz16_1 := Qd BK149.out 1; have hfz16_2 := Qd BK149.out 2; have hfz16_3 := Qd BK149.out 3; have hfz16_4 := Qd BK149.out 4; have hfz16_5 := Qd BK149.out 5; have hfz16_6 := Qd BK149.out 6)|((with_reducible refine gate_callee (f := 46) rfl ?_); refine gL (some 22) Tryz.func46 #[.agg #[.int .i64 a0_1, .int .i64 a0_2, .int .i64 a0_3, .int .i64 a0_4, .int .i32 a0_5]] ?_; (with_reducible refine (curtilageref08_Fit.calls k a0_1 a0_2 a0_3 a0_4 a0_5 true _ A3.out).mono ?_); rintro e w17 ⟨rfl, hb⟩; refine ⟨_, rfl, ?_⟩; have n0_ := Q4 (Qo (g := gb149) (o := .cells #[.string a0_0, .int .i64 a0_1, .int .i64 a0_2, .int .i64 a0_3, .int .i64 a0_4, .int .i32 a0_5, .string a0_6] 40 (0, 0)) (bK BK149) hb); have n1_ := Q4 (Qg (by repeat (first|(with_reducible first|exact HB.out|apply Q8|apply Q5|apply Q9|refine Q6 ?_ GE149.out)|exact HB.out)) hb); clear BK149; clear HB; have BK149 := n0_; have HB := n1_; clear n0_ n1_;(try clear hb);(try clear hb2);(try clear hk);(try clear hi); have hcz18_0 : w17.cell? ⟨gb149, 0, none⟩ = some (.string a0_0) := (Qe BK149.out 0).trans rfl; have hcz18_1 : w17.cell? ⟨gb149, 1, none⟩ = some (.int .i64 a0_1) := (Qe BK149.out 1).trans rfl; have hcz18_2 : w17.cell? ⟨gb149, 2, none⟩ = some (.int .i64 a0_2) := (Qe BK149.out 2).trans rfl; have hcz18_3 : w17.cell? ⟨gb149, 3, none⟩ = some (.int .i64 a0_3) := (Qe BK149.out 3).trans rfl; have hcz18_4 : w17.cell? ⟨gb149, 4, none⟩ = some (.int .i64 a0_4) := (Qe BK149.out 4).trans rfl; have hcz18_5 : w17.cell? ⟨gb149, 5, none⟩ = some (.int .i32 a0_5) := (Qe BK149.out 5).trans rfl; have hcz18_6 : w17.cell? ⟨gb149, 6, none⟩ = some (.string a0_6) := (Qe BK149.out 6).trans rfl; have hfz18_0 := Qd BK149.out 0; have hfz18_1 := Qd BK149.out 1; have hfz18_2 := Qd BK149.out 2; have hfz18_3 := Qd BK149.out 3; have hfz18_4 := Qd BK149.out 4; have hfz18_5 := Qd BK149.out 5; have hfz18_6 := Qd BK149.out 6)|((with_reducible refine gate_callee (f := 45) rfl ?_); refine gL (some 29) Tryz.func45 #[.string a0_6] ?_; (with_reducible refine (curtilageref10_word.calls k a0_6 true _ A10.out).mono ?_); rintro e w' ⟨rfl, ⟨nd, rfl⟩⟩; refine ⟨_, rfl, ?_⟩)|(go_at_call 47; (with_reducible refine (curtilageref10_goes.calls a0_1 true _ A12.out).mono ?_); rintro e w' ⟨rfl, ⟨nd, rfl⟩⟩))
       go_ret
       exact ⟨by first|rfl|(simp [errW_none, errW_some] <;> rfl)|(simp [*, errW_none, errW_some] <;> rfl), by repeat (first|(with_reducible first|exact HB.out|apply Q8|apply Q5|apply Q9|refine Q6 ?_ GE149.out)|exact HB.out)⟩
      ·rw [if_neg c14] at H
       have c14b0 : (a0_5 == 0) = false := Qk c14
       have c14b1 : (a0_5 != 0) = true := Ql c14
       obtain rfl := Qn H
       go_enter Tryz.func21, Tryz.ntmps21
       go_wp2_with (first|((with_reducible refine gate_dst (N := 1) rfl ?_); refine box_event ?hg (N := 1) ?hd (cs := #[.string a0_0, .int .i64 a0_1, .int .i64 a0_2, .int .i64 a0_3, .int .i64 a0_4, .int .i32 a0_5, .string a0_6]) (t := 40) ?hr ?_; (case hd => rfl); (case hg => rfl); (case hr => first|(go_simp; done)|(go_simp; rfl)); intro gb149 hg w19 hbox hb; have n0_ := Q4 (Qg (by repeat (first|(with_reducible first|exact HB.out|apply Q8|apply Q5|apply Q9)|exact HB.out)) hb); have n1_ := Q4 (hbox); have n2_ := Q4 ((by rw [hg]; exact bZ : w.heap.size ≤ gb149)); have n3_ := Q4 ((by rw [hg]; exact bZ : w.heap.size ≤ gb149)); clear HB; have HB := n0_; have BK149 := n1_; have GW149 := n2_; have GE149 := n3_; clear n0_ n1_ n2_ n3_; clear hb hbox hg; have hcz20_0 : w19.cell? ⟨gb149, 0, none⟩ = some (.string a0_0) := (Qe BK149.out 0).trans rfl; have hcz20_1 : w19.cell? ⟨gb149, 1, none⟩ = some (.int .i64 a0_1) := (Qe BK149.out 1).trans rfl; have hcz20_2 : w19.cell? ⟨gb149, 2, none⟩ = some (.int .i64 a0_2) := (Qe BK149.out 2).trans rfl; have hcz20_3 : w19.cell? ⟨gb149, 3, none⟩ = some (.int .i64 a0_3) := (Qe BK149.out 3).trans rfl; have hcz20_4 : w19.cell? ⟨gb149, 4, none⟩ = some (.int .i64 a0_4) := (Qe BK149.out 4).trans rfl; have hcz20_5 : w19.cell? ⟨gb149, 5, none⟩ = some (.int .i32 a0_5) := (Qe BK149.out 5).trans rfl; have hcz20_6 : w19.cell? ⟨gb149, 6, none⟩ = some (.string a0_6) := (Qe BK149.out 6).trans rfl; have hfz20_0 := Qd BK149.out 0; have hfz20_1 := Qd BK149.out 1; have hfz20_2 := Qd BK149.out 2; have hfz20_3 := Qd BK149.out 3; have hfz20_4 := Qd BK149.out 4; have hfz20_5 := Qd BK149.out 5; have hfz20_6 := Qd BK149.out 6)|((with_reducible refine gate_callee (f := 46) rfl ?_); refine gL (some 22) Tryz.func46 #[.agg #[.int .i64 a0_1, .int .i64 a0_2, .int .i64 a0_3, .int .i64 a0_4, .int .i32 a0_5]] ?_; (with_reducible refine (curtilageref08_Fit.calls k a0_1 a0_2 a0_3 a0_4 a0_5 true _ A3.out).mono ?_); rintro e w21 ⟨rfl, hb⟩; refine ⟨_, rfl, ?_⟩; have n0_ := Q4 (Qo (g := gb149) (o := .cells #[.string a0_0, .int .i64 a0_1, .int .i64 a0_2, .int .i64 a0_3, .int .i64 a0_4, .int .i32 a0_5, .string a0_6] 40 (0, 0)) (bK BK149) hb); have n1_ := Q4 (Qg (by repeat (first|(with_reducible first|exact HB.out|apply Q8|apply Q5|apply Q9|refine Q6 ?_ GE149.out)|exact HB.out)) hb); clear BK149; clear HB; have BK149 := n0_; have HB := n1_; clear n0_ n1_;(try clear hb);(try clear hb2);(try clear hk);(try clear hi); have hcz22_0 : w21.cell? ⟨gb149, 0, none⟩ = some (.string a0_0) := (Qe BK149.out 0).trans rfl; have hcz22_1 : w21.cell? ⟨gb149, 1, none⟩ = some (.int .i64 a0_1) := (Qe BK149.out 1).trans rfl; have hcz22_2 : w21.cell? ⟨gb149, 2, none⟩ = some (.int .i64 a0_2) := (Qe BK149.out 2).trans rfl; have hcz22_3 : w21.cell? ⟨gb149, 3, none⟩ = some (.int .i64 a0_3) := (Qe BK149.out 3).trans rfl; have hcz22_4 : w21.cell? ⟨gb149, 4, none⟩ = some (.int .i64 a0_4) := (Qe BK149.out 4).trans rfl; have hcz22_5 : w21.cell? ⟨gb149, 5, none⟩ = some (.int .i32 a0_5) := (Qe BK149.out 5).trans rfl; have hcz22_6 : w21.cell? ⟨gb149, 6, none⟩ = some (.string a0_6) := (Qe BK149.out 6).trans rfl; have hfz22_0 := Qd BK149.out 0; have hfz22_1 := Qd BK149.out 1; have hfz22_2 := Qd BK149.out 2; have hfz22_3 := Qd BK149.out 3; have hfz22_4 := Qd BK149.out 4; have hfz22_5 := Qd BK149.out 5; have hfz22_6 := Qd BK149.out 6)|((with_reducible refine gate_callee (f := 45) rfl ?_); refine gL (some 29) Tryz.func45 #[.string a0_6] ?_; (with_reducible refine (curtilageref10_word.calls k a0_6 true _ A10.out).mono ?_); rintro e w' ⟨rfl, ⟨nd, rfl⟩⟩; refine ⟨_, rfl, ?_⟩)|(go_at_call 47; (with_reducible refine (curtilageref10_goes.calls a0_1 true _ A12.out).mono ?_); rintro e w' ⟨rfl, ⟨nd, rfl⟩⟩))
       go_ret
       exact ⟨by first|rfl|(simp [errW_none, errW_some] <;> rfl)|(simp [*, errW_none, errW_some] <;> rfl), by repeat (first|(with_reducible first|exact HB.out|apply Q8|apply Q5|apply Q9|refine Q6 ?_ GE149.out)|exact HB.out)⟩
     ·replace c13 := Bool.eq_false_iff.mpr c13
      subst c13
      rw [if_neg (show ¬ (false = true) by decide)] at H
      obtain rfl := Qn H
      go_enter Tryz.func21, Tryz.ntmps21
      go_wp2_with (first|((with_reducible refine gate_dst (N := 1) rfl ?_); refine box_event ?hg (N := 1) ?hd (cs := #[.string a0_0, .int .i64 a0_1, .int .i64 a0_2, .int .i64 a0_3, .int .i64 a0_4, .int .i32 a0_5, .string a0_6]) (t := 40) ?hr ?_; (case hd => rfl); (case hg => rfl); (case hr => first|(go_simp; done)|(go_simp; rfl)); intro gb149 hg w23 hbox hb; have n0_ := Q4 (Qg (by repeat (first|(with_reducible first|exact HB.out|apply Q8|apply Q5|apply Q9)|exact HB.out)) hb); have n1_ := Q4 (hbox); have n2_ := Q4 ((by rw [hg]; exact bZ : w.heap.size ≤ gb149)); have n3_ := Q4 ((by rw [hg]; exact bZ : w.heap.size ≤ gb149)); clear HB; have HB := n0_; have BK149 := n1_; have GW149 := n2_; have GE149 := n3_; clear n0_ n1_ n2_ n3_; clear hb hbox hg; have hcz24_0 : w23.cell? ⟨gb149, 0, none⟩ = some (.string a0_0) := (Qe BK149.out 0).trans rfl; have hcz24_1 : w23.cell? ⟨gb149, 1, none⟩ = some (.int .i64 a0_1) := (Qe BK149.out 1).trans rfl; have hcz24_2 : w23.cell? ⟨gb149, 2, none⟩ = some (.int .i64 a0_2) := (Qe BK149.out 2).trans rfl; have hcz24_3 : w23.cell? ⟨gb149, 3, none⟩ = some (.int .i64 a0_3) := (Qe BK149.out 3).trans rfl; have hcz24_4 : w23.cell? ⟨gb149, 4, none⟩ = some (.int .i64 a0_4) := (Qe BK149.out 4).trans rfl; have hcz24_5 : w23.cell? ⟨gb149, 5, none⟩ = some (.int .i32 a0_5) := (Qe BK149.out 5).trans rfl; have hcz24_6 : w23.cell? ⟨gb149, 6, none⟩ = some (.string a0_6) := (Qe BK149.out 6).trans rfl; have hfz24_0 := Qd BK149.out 0; have hfz24_1 := Qd BK149.out 1; have hfz24_2 := Qd BK149.out 2; have hfz24_3 := Qd BK149.out 3; have hfz24_4 := Qd BK149.out 4; have hfz24_5 := Qd BK149.out 5; have hfz24_6 := Qd BK149.out 6)|((with_reducible refine gate_callee (f := 46) rfl ?_); refine gL (some 22) Tryz.func46 #[.agg #[.int .i64 a0_1, .int .i64 a0_2, .int .i64 a0_3, .int .i64 a0_4, .int .i32 a0_5]] ?_; (with_reducible refine (curtilageref08_Fit.calls k a0_1 a0_2 a0_3 a0_4 a0_5 true _ A3.out).mono ?_); rintro e w25 ⟨rfl, hb⟩; refine ⟨_, rfl, ?_⟩; have n0_ := Q4 (Qo (g := gb149) (o := .cells #[.string a0_0, .int .i64 a0_1, .int .i64 a0_2, .int .i64 a0_3, .int .i64 a0_4, .int .i32 a0_5, .string a0_6] 40 (0, 0)) (bK BK149) hb); have n1_ := Q4 (Qg (by repeat (first|(with_reducible first|exact HB.out|apply Q8|apply Q5|apply Q9|refine Q6 ?_ GE149.out)|exact HB.out)) hb); clear BK149; clear HB; have BK149 := n0_; have HB := n1_; clear n0_ n1_;(try clear hb);(try clear hb2);(try clear hk);(try clear hi); have hcz26_0 : w25.cell? ⟨gb149, 0, none⟩ = some (.string a0_0) := (Qe BK149.out 0).trans rfl; have hcz26_1 : w25.cell? ⟨gb149, 1, none⟩ = some (.int .i64 a0_1) := (Qe BK149.out 1).trans rfl; have hcz26_2 : w25.cell? ⟨gb149, 2, none⟩ = some (.int .i64 a0_2) := (Qe BK149.out 2).trans rfl; have hcz26_3 : w25.cell? ⟨gb149, 3, none⟩ = some (.int .i64 a0_3) := (Qe BK149.out 3).trans rfl; have hcz26_4 : w25.cell? ⟨gb149, 4, none⟩ = some (.int .i64 a0_4) := (Qe BK149.out 4).trans rfl; have hcz26_5 : w25.cell? ⟨gb149, 5, none⟩ = some (.int .i32 a0_5) := (Qe BK149.out 5).trans rfl; have hcz26_6 : w25.cell? ⟨gb149, 6, none⟩ = some (.string a0_6) := (Qe BK149.out 6).trans rfl; have hfz26_0 := Qd BK149.out 0; have hfz26_1 := Qd BK149.out 1; have hfz26_2 := Qd BK149.out 2; have hfz26_3 := Qd BK149.out 3; have hfz26_4 := Qd BK149.out 4; have hfz26_5 := Qd BK149.out 5; have hfz26_6 := Qd BK149.out 6)|((with_reducible refine gate_callee (f := 45) rfl ?_); refine gL (some 29) Tryz.func45 #[.string a0_6] ?_; (with_reducible refine (curtilageref10_word.calls k a0_6 true _ A10.out).mono ?_); rintro e w' ⟨rfl, ⟨nd, rfl⟩⟩; refine ⟨_, rfl, ?_⟩)|(go_at_call 47; (with_reducible refine (curtilageref10_goes.calls a0_1 false _ A12.out).mono ?_); rintro e w' ⟨rfl, ⟨nd, rfl⟩⟩))
      go_ret
      exact ⟨by first|rfl|(simp [errW_none, errW_some] <;> rfl)|(simp [*, errW_none, errW_some] <;> rfl), by repeat (first|(with_reducible first|exact HB.out|apply Q8|apply Q5|apply Q9|refine Q6 ?_ GE149.out)|exact HB.out)⟩
    ·replace c11 := Bool.eq_false_iff.mpr c11
     subst c11
     rw [if_neg (show ¬ (false = true) by decide)] at H
     obtain rfl := Qn H
     go_enter Tryz.func21, Tryz.ntmps21
     go_wp2_with (first|((with_reducible refine gate_dst (N := 1) rfl ?_); refine box_event ?hg (N := 1) ?hd (cs := #[.string a0_0, .int .i64 a0_1, .int .i64 a0_2, .int .i64 a0_3, .int .i64 a0_4, .int .i32 a0_5, .string a0_6]) (t := 40) ?hr ?_; (case hd => rfl); (case hg => rfl); (case hr => first|(go_simp; done)|(go_simp; rfl)); intro gb149 hg w27 hbox hb; have n0_ := Q4 (Qg (by repeat (first|(with_reducible first|exact HB.out|apply Q8|apply Q5|apply Q9)|exact HB.out)) hb); have n1_ := Q4 (hbox); have n2_ := Q4 ((by rw [hg]; exact bZ : w.heap.size ≤ gb149)); have n3_ := Q4 ((by rw [hg]; exact bZ : w.heap.size ≤ gb149)); clear HB; have HB := n0_; have BK149 := n1_; have GW149 := n2_; have GE149 := n3_; clear n0_ n1_ n2_ n3_; clear hb hbox hg; have hcz28_0 : w27.cell? ⟨gb149, 0, none⟩ = some (.string a0_0) := (Qe BK149.out 0).trans rfl; have hcz28_1 : w27.cell? ⟨gb149, 1, none⟩ = some (.int .i64 a0_1) := (Qe BK149.out 1).trans rfl; have hcz28_2 : w27.cell? ⟨gb149, 2, none⟩ = some (.int .i64 a0_2) := (Qe BK149.out 2).trans rfl; have hcz28_3 : w27.cell? ⟨gb149, 3, none⟩ = some (.int .i64 a0_3) := (Qe BK149.out 3).trans rfl; have hcz28_4 : w27.cell? ⟨gb149, 4, none⟩ = some (.int .i64 a0_4) := (Qe BK149.out 4).trans rfl; have hcz28_5 : w27.cell? ⟨gb149, 5, none⟩ = some (.int .i32 a0_5) := (Qe BK149.out 5).trans rfl; have hcz28_6 : w27.cell? ⟨gb149, 6, none⟩ = some (.string a0_6) := (Qe BK149.out 6).trans rfl; have hfz28_0 := Qd BK149.out 0; have hfz28_1 := Qd BK149.out 1; have hfz28_2 := Qd BK149.out 2; have hfz28_3 := Qd BK149.out 3; have hfz28_4 := Qd BK149.out 4; have hfz28_5 := Qd BK149.out 5; have hfz28_6 := Qd BK149.out 6)|((with_reducible refine gate_callee (f := 46) rfl ?_); refine gL (some 22) Tryz.func46 #[.agg #[.int .i64 a0_1, .int .i64 a0_2, .int .i64 a0_3, .int .i64 a0_4, .int .i32 a0_5]] ?_; (with_reducible refine (curtilageref08_Fit.calls k a0_1 a0_2 a0_3 a0_4 a0_5 true _ A3.out).mono ?_); rintro e w29 ⟨rfl, hb⟩; refine ⟨_, rfl, ?_⟩; have n0_ := Q4 (Qo (g := gb149) (o := .cells #[.string a0_0, .int .i64 a0_1, .int .i64 a0_2, .int .i64 a0_3, .int .i64 a0_4, .int .i32 a0_5, .string a0_6] 40 (0, 0)) (bK BK149) hb); have n1_ := Q4 (Qg (by repeat (first|(with_reducible first|exact HB.out|apply Q8|apply Q5|apply Q9|refine Q6 ?_ GE149.out)|exact HB.out)) hb); clear BK149; clear HB; have BK149 := n0_; have HB := n1_; clear n0_ n1_;(try clear hb);(try clear hb2);(try clear hk);(try clear hi); have hcz30_0 : w29.cell? ⟨gb149, 0, none⟩ = some (.string a0_0) := (Qe BK149.out 0).trans rfl; have hcz30_1 : w29.cell? ⟨gb149, 1, none⟩ = some (.int .i64 a0_1) := (Qe BK149.out 1).trans rfl; have hcz30_2 : w29.cell? ⟨gb149, 2, none⟩ = some (.int .i64 a0_2) := (Qe BK149.out 2).trans rfl; have hcz30_3 : w29.cell? ⟨gb149, 3, none⟩ = some (.int .i64 a0_3) := (Qe BK149.out 3).trans rfl; have hcz30_4 : w29.cell? ⟨gb149, 4, none⟩ = some (.int .i64 a0_4) := (Qe BK149.out 4).trans rfl; have hcz30_5 : w29.cell? ⟨gb149, 5, none⟩ = some (.int .i32 a0_5) := (Qe BK149.out 5).trans rfl; have hcz30_6 : w29.cell? ⟨gb149, 6, none⟩ = some (.string a0_6) := (Qe BK149.out 6).trans rfl; have hfz30_0 := Qd BK149.out 0; have hfz30_1 := Qd BK149.out 1; have hfz30_2 := Qd BK149.out 2; have hfz30_3 := Qd BK149.out 3; have hfz30_4 := Qd BK149.out 4; have hfz30_5 := Qd BK149.out 5; have hfz30_6 := Qd BK149.out 6)|((with_reducible refine gate_callee (f := 45) rfl ?_); refine gL (some 29) Tryz.func45 #[.string a0_6] ?_; (with_reducible refine (curtilageref10_word.calls k a0_6 false _ A10.out).mono ?_); rintro e w' ⟨rfl, ⟨nd, rfl⟩⟩; refine ⟨_, rfl, ?_⟩))
     go_ret
     exact ⟨by first|rfl|(simp [errW_none, errW_some] <;> rfl)|(simp [*, errW_none, errW_some] <;> rfl), by repeat (first|(with_reducible first|exact HB.out|apply Q8|apply Q5|apply Q9|refine Q6 ?_ GE149.out)|exact HB.out)⟩
  ·replace c4 := Bool.eq_false_iff.mpr c4
   subst c4
   rw [if_neg (show ¬ (false = true) by decide)] at H
   obtain rfl := Qn H
   go_enter Tryz.func21, Tryz.ntmps21
   go_wp2_with (first|((with_reducible refine gate_dst (N := 1) rfl ?_); refine box_event ?hg (N := 1) ?hd (cs := #[.string a0_0, .int .i64 a0_1, .int .i64 a0_2, .int .i64 a0_3, .int .i64 a0_4, .int .i32 a0_5, .string a0_6]) (t := 40) ?hr ?_; (case hd => rfl); (case hg => rfl); (case hr => first|(go_simp; done)|(go_simp; rfl)); intro gb149 hg w31 hbox hb; have n0_ := Q4 (Qg (by repeat (first|(with_reducible first|exact HB.out|apply Q8|apply Q5|apply Q9)|exact HB.out)) hb); have n1_ := Q4 (hbox); have n2_ := Q4 ((by rw [hg]; exact bZ : w.heap.size ≤ gb149)); have n3_ := Q4 ((by rw [hg]; exact bZ : w.heap.size ≤ gb149)); clear HB; have HB := n0_; have BK149 := n1_; have GW149 := n2_; have GE149 := n3_; clear n0_ n1_ n2_ n3_; clear hb hbox hg; have hcz32_0 : w31.cell? ⟨gb149, 0, none⟩ = some (.string a0_0) := (Qe BK149.out 0).trans rfl; have hcz32_1 : w31.cell? ⟨gb149, 1, none⟩ = some (.int .i64 a0_1) := (Qe BK149.out 1).trans rfl; have hcz32_2 : w31.cell? ⟨gb149, 2, none⟩ = some (.int .i64 a0_2) := (Qe BK149.out 2).trans rfl; have hcz32_3 : w31.cell? ⟨gb149, 3, none⟩ = some (.int .i64 a0_3) := (Qe BK149.out 3).trans rfl; have hcz32_4 : w31.cell? ⟨gb149, 4, none⟩ = some (.int .i64 a0_4) := (Qe BK149.out 4).trans rfl; have hcz32_5 : w31.cell? ⟨gb149, 5, none⟩ = some (.int .i32 a0_5) := (Qe BK149.out 5).trans rfl; have hcz32_6 : w31.cell? ⟨gb149, 6, none⟩ = some (.string a0_6) := (Qe BK149.out 6).trans rfl; have hfz32_0 := Qd BK149.out 0; have hfz32_1 := Qd BK149.out 1; have hfz32_2 := Qd BK149.out 2; have hfz32_3 := Qd BK149.out 3; have hfz32_4 := Qd BK149.out 4; have hfz32_5 := Qd BK149.out 5; have hfz32_6 := Qd BK149.out 6)|((with_reducible refine gate_callee (f := 46) rfl ?_); refine gL (some 22) Tryz.func46 #[.agg #[.int .i64 a0_1, .int .i64 a0_2, .int .i64 a0_3, .int .i64 a0_4, .int .i32 a0_5]] ?_; (with_reducible refine (curtilageref08_Fit.calls k a0_1 a0_2 a0_3 a0_4 a0_5 false _ A3.out).mono ?_); rintro e w33 ⟨rfl, hb⟩; refine ⟨_, rfl, ?_⟩; have n0_ := Q4 (Qo (g := gb149) (o := .cells #[.string a0_0, .int .i64 a0_1, .int .i64 a0_2, .int .i64 a0_3, .int .i64 a0_4, .int .i32 a0_5, .string a0_6] 40 (0, 0)) (bK BK149) hb); have n1_ := Q4 (Qg (by repeat (first|(with_reducible first|exact HB.out|apply Q8|apply Q5|apply Q9|refine Q6 ?_ GE149.out)|exact HB.out)) hb); clear BK149; clear HB; have BK149 := n0_; have HB := n1_; clear n0_ n1_;(try clear hb);(try clear hb2);(try clear hk);(try clear hi)))
   go_ret
   exact ⟨by first|rfl|(simp [errW_none, errW_some] <;> rfl)|(simp [*, errW_none, errW_some] <;> rfl), by repeat (first|(with_reducible first|exact HB.out|apply Q8|apply Q5|apply Q9|refine Q6 ?_ GE149.out)|exact HB.out)⟩
 ·rw [if_neg c2] at H
  have c2b0 : (a0_0.toList == ([] : List UInt8)) = false := Qk c2
  have c2b1 : (a0_0.toList != ([] : List UInt8)) = true := Ql c2
  replace H := Qi H
  obtain ⟨t150, A340, H⟩ := H
  try dsimp only at H
  have A34 := Q4 A340
  clear A340
  by_cases c35 : t150 = true
  ·subst c35
   rw [if_pos rfl] at H
   by_cases c36 : a0_6.toList = ([] : List UInt8)
   ·rw [if_pos c36] at H
    have c36b0 : (a0_6.toList == ([] : List UInt8)) = true := Qm c36
    have c36b1 : (a0_6.toList != ([] : List UInt8)) = false := Qh c36
    clear c36
    obtain rfl := Qn H
    go_enter Tryz.func21, Tryz.ntmps21
    go_wp2_with (first|((with_reducible refine gate_dst (N := 1) rfl ?_); refine box_event ?hg (N := 1) ?hd (cs := #[.string a0_0, .int .i64 a0_1, .int .i64 a0_2, .int .i64 a0_3, .int .i64 a0_4, .int .i32 a0_5, .string a0_6]) (t := 40) ?hr ?_; (case hd => rfl); (case hg => rfl); (case hr => first|(go_simp; done)|(go_simp; rfl)); intro gb149 hg w37 hbox hb; have n0_ := Q4 (Qg (by repeat (first|(with_reducible first|exact HB.out|apply Q8|apply Q5|apply Q9)|exact HB.out)) hb); have n1_ := Q4 (hbox); have n2_ := Q4 ((by rw [hg]; exact bZ : w.heap.size ≤ gb149)); have n3_ := Q4 ((by rw [hg]; exact bZ : w.heap.size ≤ gb149)); clear HB; have HB := n0_; have BK149 := n1_; have GW149 := n2_; have GE149 := n3_; clear n0_ n1_ n2_ n3_; clear hb hbox hg; have hcz38_0 : w37.cell? ⟨gb149, 0, none⟩ = some (.string a0_0) := (Qe BK149.out 0).trans rfl; have hcz38_1 : w37.cell? ⟨gb149, 1, none⟩ = some (.int .i64 a0_1) := (Qe BK149.out 1).trans rfl; have hcz38_2 : w37.cell? ⟨gb149, 2, none⟩ = some (.int .i64 a0_2) := (Qe BK149.out 2).trans rfl; have hcz38_3 : w37.cell? ⟨gb149, 3, none⟩ = some (.int .i64 a0_3) := (Qe BK149.out 3).trans rfl; have hcz38_4 : w37.cell? ⟨gb149, 4, none⟩ = some (.int .i64 a0_4) := (Qe BK149.out 4).trans rfl; have hcz38_5 : w37.cell? ⟨gb149, 5, none⟩ = some (.int .i32 a0_5) := (Qe BK149.out 5).trans rfl; have hcz38_6 : w37.cell? ⟨gb149, 6, none⟩ = some (.string a0_6) := (Qe BK149.out 6).trans rfl; have hfz38_0 := Qd BK149.out 0; have hfz38_1 := Qd BK149.out 1; have hfz38_2 := Qd BK149.out 2; have hfz38_3 := Qd BK149.out 3; have hfz38_4 := Qd BK149.out 4; have hfz38_5 := Qd BK149.out 5; have hfz38_6 := Qd BK149.out 6)|((with_reducible refine gate_callee (f := 45) rfl ?_); refine gL (some 8) Tryz.func45 #[.string a0_0] ?_; (with_reducible refine (curtilageref10_word.calls k a0_0 true _ A34.out).mono ?_); rintro e w' ⟨rfl, ⟨nd, rfl⟩⟩; refine ⟨_, rfl, ?_⟩))
    go_ret
    exact ⟨by first|rfl|(simp [errW_none, errW_some] <;> rfl)|(simp [*, errW_none, errW_some] <;> rfl), by repeat (first|(with_reducible first|exact HB.out|apply Q8|apply Q5|apply Q9|refine Q6 ?_ GE149.out)|exact HB.out)⟩
   ·rw [if_neg c36] at H
    have c36b0 : (a0_6.toList == ([] : List UInt8)) = false := Qk c36
    have c36b1 : (a0_6.toList != ([] : List UInt8)) = true := Ql c36
    obtain rfl := Qn H
    go_enter Tryz.func21, Tryz.ntmps21
    go_wp2_with (first|((with_reducible refine gate_dst (N := 1) rfl ?_); refine box_event ?hg (N := 1) ?hd (cs := #[.string a0_0, .int .i64 a0_1, .int .i64 a0_2, .int .i64 a0_3, .int .i64 a0_4, .int .i32 a0_5, .string a0_6]) (t := 40) ?hr ?_; (case hd => rfl); (case hg => rfl); (case hr => first|(go_simp; done)|(go_simp; rfl)); intro gb149 hg w39 hbox hb; have n0_ := Q4 (Qg (by repeat (first|(with_reducible first|exact HB.out|apply Q8|apply Q5|apply Q9)|exact HB.out)) hb); have n1_ := Q4 (hbox); have n2_ := Q4 ((by rw [hg]; exact bZ : w.heap.size ≤ gb149)); have n3_ := Q4 ((by rw [hg]; exact bZ : w.heap.size ≤ gb149)); clear HB; have HB := n0_; have BK149 := n1_; have GW149 := n2_; have GE149 := n3_; clear n0_ n1_ n2_ n3_; clear hb hbox hg; have hcz40_0 : w39.cell? ⟨gb149, 0, none⟩ = some (.string a0_0) := (Qe BK149.out 0).trans rfl; have hcz40_1 : w39.cell? ⟨gb149, 1, none⟩ = some (.int .i64 a0_1) := (Qe BK149.out 1).trans rfl; have hcz40_2 : w39.cell? ⟨gb149, 2, none⟩ = some (.int .i64 a0_2) := (Qe BK149.out 2).trans rfl; have hcz40_3 : w39.cell? ⟨gb149, 3, none⟩ = some (.int .i64 a0_3) := (Qe BK149.out 3).trans rfl; have hcz40_4 : w39.cell? ⟨gb149, 4, none⟩ = some (.int .i64 a0_4) := (Qe BK149.out 4).trans rfl; have hcz40_5 : w39.cell? ⟨gb149, 5, none⟩ = some (.int .i32 a0_5) := (Qe BK149.out 5).trans rfl; have hcz40_6 : w39.cell? ⟨gb149, 6, none⟩ = some (.string a0_6) := (Qe BK149.out 6).trans rfl; have hfz40_0 := Qd BK149.out 0; have hfz40_1 := Qd BK149.out 1; have hfz40_2 := Qd BK149.out 2; have hfz40_3 := Qd BK149.out 3; have hfz40_4 := Qd BK149.out 4; have hfz40_5 := Qd BK149.out 5; have hfz40_6 := Qd BK149.out 6)|((with_reducible refine gate_callee (f := 45) rfl ?_); refine gL (some 8) Tryz.func45 #[.string a0_0] ?_; (with_reducible refine (curtilageref10_word.calls k a0_0 true _ A34.out).mono ?_); rintro e w' ⟨rfl, ⟨nd, rfl⟩⟩; refine ⟨_, rfl, ?_⟩))
    go_ret
    exact ⟨by first|rfl|(simp [errW_none, errW_some] <;> rfl)|(simp [*, errW_none, errW_some] <;> rfl), by repeat (first|(with_reducible first|exact HB.out|apply Q8|apply Q5|apply Q9|refine Q6 ?_ GE149.out)|exact HB.out)⟩
  ·replace c35 := Bool.eq_false_iff.mpr c35
   subst c35
   rw [if_neg (show ¬ (false = true) by decide)] at H
   obtain rfl := Qn H
   go_enter Tryz.func21, Tryz.ntmps21
   go_wp2_with (first|((with_reducible refine gate_dst (N := 1) rfl ?_); refine box_event ?hg (N := 1) ?hd (cs := #[.string a0_0, .int .i64 a0_1, .int .i64 a0_2, .int .i64 a0_3, .int .i64 a0_4, .int .i32 a0_5, .string a0_6]) (t := 40) ?hr ?_; (case hd => rfl); (case hg => rfl); (case hr => first|(go_simp; done)|(go_simp; rfl)); intro gb149 hg w41 hbox hb; have n0_ := Q4 (Qg (by repeat (first|(with_reducible first|exact HB.out|apply Q8|apply Q5|apply Q9)|exact HB.out)) hb); have n1_ := Q4 (hbox); have n2_ := Q4 ((by rw [hg]; exact bZ : w.heap.size ≤ gb149)); have n3_ := Q4 ((by rw [hg]; exact bZ : w.heap.size ≤ gb149)); clear HB; have HB := n0_; have BK149 := n1_; have GW149 := n2_; have GE149 := n3_; clear n0_ n1_ n2_ n3_; clear hb hbox hg; have hcz42_0 : w41.cell? ⟨gb149, 0, none⟩ = some (.string a0_0) := (Qe BK149.out 0).trans rfl; have hcz42_1 : w41.cell? ⟨gb149, 1, none⟩ = some (.int .i64 a0_1) := (Qe BK149.out 1).trans rfl; have hcz42_2 : w41.cell? ⟨gb149, 2, none⟩ = some (.int .i64 a0_2) := (Qe BK149.out 2).trans rfl; have hcz42_3 : w41.cell? ⟨gb149, 3, none⟩ = some (.int .i64 a0_3) := (Qe BK149.out 3).trans rfl; have hcz42_4 : w41.cell? ⟨gb149, 4, none⟩ = some (.int .i64 a0_4) := (Qe BK149.out 4).trans rfl; have hcz42_5 : w41.cell? ⟨gb149, 5, none⟩ = some (.int .i32 a0_5) := (Qe BK149.out 5).trans rfl; have hcz42_6 : w41.cell? ⟨gb149, 6, none⟩ = some (.string a0_6) := (Qe BK149.out 6).trans rfl; have hfz42_0 := Qd BK149.out 0; have hfz42_1 := Qd BK149.out 1; have hfz42_2 := Qd BK149.out 2; have hfz42_3 := Qd BK149.out 3; have hfz42_4 := Qd BK149.out 4; have hfz42_5 := Qd BK149.out 5; have hfz42_6 := Qd BK149.out 6)|((with_reducible refine gate_callee (f := 45) rfl ?_); refine gL (some 8) Tryz.func45 #[.string a0_0] ?_; (with_reducible refine (curtilageref10_word.calls k a0_0 false _ A34.out).mono ?_); rintro e w' ⟨rfl, ⟨nd, rfl⟩⟩; refine ⟨_, rfl, ?_⟩))
   go_ret
   exact ⟨by first|rfl|(simp [errW_none, errW_some] <;> rfl)|(simp [*, errW_none, errW_some] <;> rfl), by repeat (first|(with_reducible first|exact HB.out|apply Q8|apply Q5|apply Q9|refine Q6 ?_ GE149.out)|exact HB.out)⟩

/-! ### curtilageref10_words: function 33 -/
def curtilageref10_words.l0 : Nat → ByteArray → List ByteArray → Int → Int → Option (List ByteArray)
 | 0, _, _, _, _ => none
 | k + 1, x0, x3, x4, x5 => if x5 ≤ (x0.size : Int) then (if x5 = (x0.size : Int) then (if 0 ≤ x4 then (if x4 ≤ x5 then (if x3.length < 8796093022208 then (curtilageref10_words.l0 k x0 (x3 ++ [x0.extract (x4 : Int).toNat (x5 : Int).toNat]) (wrap64 (x5 + 1)) (wrap64 (x5 + 1))) else (none)) else (none)) else (none)) else (if 0 ≤ x5 then (if x5 < (x0.size : Int) then (if (bt x0 x5) = 32 then (if 0 ≤ x4 then (if x4 ≤ x5 then (if x3.length < 8796093022208 then (curtilageref10_words.l0 k x0 (x3 ++ [x0.extract (x4 : Int).toNat (x5 : Int).toNat]) (wrap64 (x5 + 1)) (wrap64 (x5 + 1))) else (none)) else (none)) else (none)) else (curtilageref10_words.l0 k x0 x3 x4 (wrap64 (x5 + 1)))) else (none)) else (none))) else (some x3)
def curtilageref10_words.f (k : Nat) (a0 : ByteArray) : Option (List ByteArray) := curtilageref10_words.l0 k a0 ([] : List ByteArray) 0 0
set_option maxHeartbeats 8000000 in
set_option maxRecDepth 100000 in
theorem curtilageref10_words.calls (k : Nat) (a0 : ByteArray) (r : List ByteArray) (w : World) (h : curtilageref10_words.f k a0 = some r) :
  Calls Tryz.prog 33 #[.string a0] w fun e w' => ∃ v0_ : Value, e = .returned (v0_) ∧ Kd.R Kd.string 9 w' w.heap.size (fun _ => True) v0_ r ∧ Below w.heap.size w w' := by
 have HB := Q4 (Below.refl w.heap.size w)
 have H : (curtilageref10_words.l0 k a0 ([] : List ByteArray) 0 0) = some r := h
 clear h
 have H' := Q4 H
 clear H
 go_enter Tryz.func33, Tryz.ntmps33
 go_wp2
 go_loopg [3, 4, 5] k (fun kq v3 v4 v5 w' => ∃ (x3_1 : List ByteArray) (x4_1 : Int) (x5_1 : Int), v4 = .int .i64 x4_1 ∧ v5 = .int .i64 x5_1 ∧ Aside0 (curtilageref10_words.l0 kq a0 x3_1 x4_1 x5_1 = some r) ∧ Aside0 (kq ≤ k) ∧ Aside0 (Kd.R Kd.string 9 w' w.heap.size (fun _ => True) v3 x3_1) ∧ Aside0 (Below w.heap.size w w'))
 case atStart => exact ⟨(([] : List ByteArray)), (0), (0), (by first|rfl|(simp; done)|(simp [*]; done)), (by first|rfl|(simp; done)|(simp [*]; done)), H', ⟨Nat.le_refl _⟩, ⟨by first|exact Kd.R_nil _ _ _ _ _|exact Kd.N_nil _ _ _ _ _|exact Kd.V_nil _ _ _ _ _|exact Kd.Q_nil _ _ _ _ _|exact Kd.S_nil _ _ _ _ _⟩, ⟨by repeat (first|(with_reducible first|exact HB.out|apply Q8|apply Q5|apply Q9)|exact HB.out)⟩⟩
 case round =>
  clear H'
  obtain ⟨x3_1, x4_1, x5_1, rfl, rfl, HA, HK1, HO_3, HB⟩ := hrel
  cases gk with
  | zero => exact absurd HA.out (by simp [curtilageref10_words.l0])
  | succ k1 =>
   have H := HA.out
   clear HA
   simp only [curtilageref10_words.l0] at H
   by_cases c2 : x5_1 ≤ (a0.size : Int)
   ·rw [if_pos c2] at H
    have c2b0 : decide (x5_1 ≤ (a0.size : Int)) = true := Qj c2
    clear c2
    by_cases c3 : x5_1 = (a0.size : Int)
    ·rw [if_pos c3] at H
     have c3b0 : (x5_1 == (a0.size : Int)) = true := Qm c3
     have c3b1 : (x5_1 != (a0.size : Int)) = false := Qh c3
     clear c3
     by_cases c4 : 0 ≤ x4_1
     ·rw [if_pos c4] at H
      have c4b0 := eq_true c4
      have c4b1 : decide (0 ≤ x4_1) = true := Qj c4
      clear c4
      by_cases c5 : x4_1 ≤ x5_1
      ·rw [if_pos c5] at H
       have c5b0 := eq_true c5
       have c5b1 : decide (x4_1 ≤ x5_1) = true := Qj c5
       clear c5
       have c6b0 := eq_true (Qc (by first|(with_reducible assumption)|assumption) : x5_1 ≤ (a0.size : Int))
       by_cases c7 : x3_1.length < 8796093022208
       ·rw [if_pos c7] at H
        have LMc7 := Q4 c7
        clear c7
        obtain ⟨y154, hy154⟩ : ∃ y_ : List ByteArray, y_ = (x3_1 ++ [a0.extract (x4_1 : Int).toNat (x5_1 : Int).toNat]) := ⟨_, rfl⟩
        replace H : (curtilageref10_words.l0 k1 a0 y154 (wrap64 (x5_1 + 1)) (wrap64 (x5_1 + 1))) = some r := by first|(rw [hy154]; with_reducible exact H)|(have H2_ := (Option.bind_some _ _).symm.trans H; rw [hy154]; with_reducible exact H2_)|(have H2_ := (Option.bind_some _ _).symm.trans H; with_reducible exact H2_) | with_reducible exact H|(rw [hy154]; exact H)|exact H
        have Ny154 := Q4 hy154
        clear hy154
        have H' := Q4 H
        clear H
        go_wp2_with (first|((with_reducible refine gate_builtin (b := .append) (xs := #[.tmp 22, .tmp 27]) rfl ?_); at_builtin; refine Kd.R_append Kd.string (w0 := w) w.heap.size rfl (.tmp 22) (.tmp 27) 69 9 (.string ⟨#[]⟩) 16 rfl Tryz.underlying69 info9 rfl (by decide) (by omega) u3 x3_1 (a0.extract (x4_1 : Int).toNat (x5_1 : Int).toNat) [.string (a0.extract (x4_1 : Int).toNat (x5_1 : Int).toNat)] (fun _ => True) (fun _ => False) rfl rfl ?aP (fun _ hk => hk.elim) ?aF ?aO ?aB ?aS ?aL ?_; (case aP => exact rfl); (case aB => exact (by repeat (first|(with_reducible first|exact HB.out|apply Q8|apply Q5|apply Q9)|exact HB.out))); (case aF => exact (fun _ _ => trivial)); (case aO => exact (rK HO_3)); (case aS => exact bZ); (case aL => have := LMc7.out; omega); intro v155 w8 ho hb hg hat; rw [← Ny154.out] at ho; have n0_ := Q4 (hb); have n1_ := Q4 (ho); clear HB; clear HO_3; have HB := n0_; have HO156 := n1_; clear n0_ n1_; clear ho hb hg hat))
        go_roundg k1
        case measure => have := HK1.out; omega
        case rel => exact ⟨(y154), (wrap64 (x5_1 + 1)), (wrap64 (x5_1 + 1)), (by first|rfl|(simp; done)|(simp [*]; done)), (by first|rfl|(simp; done)|(simp [*]; done)), H', ⟨by have := HK1.out; omega⟩, ⟨by (with_reducible repeat (first|apply Kd.R_alloc|apply Kd.R_drewN|apply Kd.R_drew)); exact HO156.out⟩, ⟨by repeat (first|(with_reducible first|exact HB.out|apply Q8|apply Q5|apply Q9)|exact HB.out)⟩⟩
       ·rw [if_neg c7] at H
        exact absurd H (by simp)
      ·rw [if_neg c5] at H
       exact absurd H (by simp)
     ·rw [if_neg c4] at H
      exact absurd H (by simp)
    ·rw [if_neg c3] at H
     have c3b0 : (x5_1 == (a0.size : Int)) = false := Qk c3
     have c3b1 : (x5_1 != (a0.size : Int)) = true := Ql c3
     by_cases c9 : 0 ≤ x5_1
     ·rw [if_pos c9] at H
      have c9b0 : decide (0 ≤ x5_1) = true := Qj c9
      clear c9
      by_cases c10 : x5_1 < (a0.size : Int)
      ·rw [if_pos c10] at H
       have c10b0 : decide (x5_1 < (a0.size : Int)) = true := Qj c10
       clear c10
       by_cases c12 : (bt a0 x5_1) = 32
       ·rw [if_pos c12] at H
        have c12b0 : ((bt a0 x5_1) == 32) = true := Qm c12
        have c12b1 : ((bt a0 x5_1) != 32) = false := Qh c12
        clear c12
        by_cases c13 : 0 ≤ x4_1
        ·rw [if_pos c13] at H
         have c13b0 := eq_true c13
         have c13b1 : decide (0 ≤ x4_1) = true := Qj c13
         clear c13
         by_cases c14 : x4_1 ≤ x5_1
         ·rw [if_pos c14] at H
          have c14b0 := eq_true c14
          have c14b1 : decide (x4_1 ≤ x5_1) = true := Qj c14
          clear c14
          have c15b0 := eq_true (Qc (by first|(with_reducible assumption)|assumption) : x5_1 ≤ (a0.size : Int))
          by_cases c16 : x3_1.length < 8796093022208
          ·rw [if_pos c16] at H
           have LMc16 := Q4 c16
           clear c16
           obtain ⟨y157, hy157⟩ : ∃ y_ : List ByteArray, y_ = (x3_1 ++ [a0.extract (x4_1 : Int).toNat (x5_1 : Int).toNat]) := ⟨_, rfl⟩
           replace H : (curtilageref10_words.l0 k1 a0 y157 (wrap64 (x5_1 + 1)) (wrap64 (x5_1 + 1))) = some r := by first|(rw [hy157]; with_reducible exact H)|(have H2_ := (Option.bind_some _ _).symm.trans H; rw [hy157]; with_reducible exact H2_)|(have H2_ := (Option.bind_some _ _).symm.trans H; with_reducible exact H2_) | with_reducible exact H|(rw [hy157]; exact H)|exact H
           have Ny157 := Q4 hy157
           clear hy157
           have H' := Q4 H
           clear H
           have p11 : 0 ≤ (x5_1 : Int) := Qc (by first|(with_reducible assumption)|assumption)
           have q11 : x5_1 < (a0.size : Int) := Qc (by first|(with_reducible assumption)|assumption)
           have hx11 := bt_at a0 x5_1
           replace p11 := eq_true p11
           replace q11 := eq_true q11
           go_wp2_with (first|((with_reducible refine gate_builtin (b := .append) (xs := #[.tmp 22, .tmp 27]) rfl ?_); at_builtin; refine Kd.R_append Kd.string (w0 := w) w.heap.size rfl (.tmp 22) (.tmp 27) 69 9 (.string ⟨#[]⟩) 16 rfl Tryz.underlying69 info9 rfl (by decide) (by omega) u3 x3_1 (a0.extract (x4_1 : Int).toNat (x5_1 : Int).toNat) [.string (a0.extract (x4_1 : Int).toNat (x5_1 : Int).toNat)] (fun _ => True) (fun _ => False) rfl rfl ?aP (fun _ hk => hk.elim) ?aF ?aO ?aB ?aS ?aL ?_; (case aP => exact rfl); (case aB => exact (by repeat (first|(with_reducible first|exact HB.out|apply Q8|apply Q5|apply Q9)|exact HB.out))); (case aF => exact (fun _ _ => trivial)); (case aO => exact (rK HO_3)); (case aS => exact bZ); (case aL => have := LMc16.out; omega); intro v158 w17 ho hb hg hat; rw [← Ny157.out] at ho; have n0_ := Q4 (hb); have n1_ := Q4 (ho); clear HB; clear HO_3; have HB := n0_; have HO159 := n1_; clear n0_ n1_; clear ho hb hg hat))
           go_roundg k1
           case measure => have := HK1.out; omega
           case rel => exact ⟨(y157), (wrap64 (x5_1 + 1)), (wrap64 (x5_1 + 1)), (by first|rfl|(simp; done)|(simp [*]; done)), (by first|rfl|(simp; done)|(simp [*]; done)), H', ⟨by have := HK1.out; omega⟩, ⟨by (with_reducible repeat (first|apply Kd.R_alloc|apply Kd.R_drewN|apply Kd.R_drew)); exact HO159.out⟩, ⟨by repeat (first|(with_reducible first|exact HB.out|apply Q8|apply Q5|apply Q9)|exact HB.out)⟩⟩
          ·rw [if_neg c16] at H
           exact absurd H (by simp)
         ·rw [if_neg c14] at H
          exact absurd H (by simp)
        ·rw [if_neg c13] at H
         exact absurd H (by simp)
       ·rw [if_neg c12] at H
        have c12b0 : ((bt a0 x5_1) == 32) = false := Qk c12
        have c12b1 : ((bt a0 x5_1) != 32) = true := Ql c12
        have H' := Q4 H
        clear H
        have p11 : 0 ≤ (x5_1 : Int) := Qc (by first|(with_reducible assumption)|assumption)
        have q11 : x5_1 < (a0.size : Int) := Qc (by first|(with_reducible assumption)|assumption)
        have hx11 := bt_at a0 x5_1
        replace p11 := eq_true p11
        replace q11 := eq_true q11
        go_wp2
        go_roundg k1
        case measure => have := HK1.out; omega
        case rel => exact ⟨(x3_1), (x4_1), (wrap64 (x5_1 + 1)), (by first|rfl|(simp; done)|(simp [*]; done)), (by first|rfl|(simp; done)|(simp [*]; done)), H', ⟨by have := HK1.out; omega⟩, ⟨by (with_reducible repeat (first|apply Kd.R_alloc|apply Kd.R_drewN|apply Kd.R_drew)); exact HO_3.out⟩, ⟨by repeat (first|(with_reducible first|exact HB.out|apply Q8|apply Q5|apply Q9)|exact HB.out)⟩⟩
      ·rw [if_neg c10] at H
       exact absurd H (by simp)
     ·rw [if_neg c9] at H
      exact absurd H (by simp)
   ·rw [if_neg c2] at H
    have c2b0 : decide (x5_1 ≤ (a0.size : Int)) = false := decide_eq_false c2
    clear c2
    obtain rfl := Qn H
    go_wp2
    go_ret
    exact ⟨_, by first|rfl|(simp [errW_none, errW_some] <;> rfl)|(simp [*, errW_none, errW_some] <;> rfl), by (with_reducible repeat (first|apply Kd.R_alloc|apply Kd.R_drewN|apply Kd.R_drew)); exact HO_3.out, by repeat (first|(with_reducible first|exact HB.out|apply Q8|apply Q5|apply Q9)|exact HB.out)⟩

/-! ### curtilageref08_name: function 60 -/
def curtilageref08_name.f (a0 : Int) : Option (ByteArray) := (some (([(⟨#[104, 97, 108, 116]⟩ : ByteArray), (⟨#[109, 111, 118, 105]⟩ : ByteArray), (⟨#[109, 111, 118, 104]⟩ : ByteArray), (⟨#[109, 111, 118]⟩ : ByteArray), (⟨#[97, 100, 100]⟩ : ByteArray), (⟨#[115, 117, 98]⟩ : ByteArray), (⟨#[109, 117, 108]⟩ : ByteArray), (⟨#[100, 105, 118]⟩ : ByteArray), (⟨#[114, 101, 109]⟩ : ByteArray), (⟨#[97, 110, 100]⟩ : ByteArray), (⟨#[111, 114]⟩ : ByteArray), (⟨#[120, 111, 114]⟩ : ByteArray), (⟨#[115, 104, 108]⟩ : ByteArray), (⟨#[115, 104, 114]⟩ : ByteArray), (⟨#[97, 100, 100, 105]⟩ : ByteArray), (⟨#[101, 113]⟩ : ByteArray), (⟨#[108, 116, 117]⟩ : ByteArray), (⟨#[108, 116, 115]⟩ : ByteArray), (⟨#[106, 109, 112]⟩ : ByteArray), (⟨#[106, 122]⟩ : ByteArray), (⟨#[106, 110, 122]⟩ : ByteArray), (⟨#[99, 97, 108, 108]⟩ : ByteArray), (⟨#[106, 114]⟩ : ByteArray), (⟨#[108, 111, 97, 100]⟩ : ByteArray), (⟨#[115, 116, 111, 114, 101]⟩ : ByteArray), (⟨#[116, 114, 97, 112]⟩ : ByteArray)] : List ByteArray) : List ByteArray)).bind fun y160 => (if 0 ≤ a0 then (if a0 < (y160.length : Int) then (some (rdOf ByteArray.empty y160 a0)) else (none)) else (none))
set_option maxHeartbeats 8000000 in
set_option maxRecDepth 100000 in
theorem curtilageref08_name.calls (a0 : Int) (r : ByteArray) (w : World) (h : curtilageref08_name.f a0 = some r) :
  Calls Tryz.prog 60 #[.int .i64 a0] w fun e w' => e = .returned (.string r) ∧ Below w.heap.size w w' := by
 have HB := Q4 (Below.refl w.heap.size w)
 have H := h
 unfold curtilageref08_name.f at H
 clear h
 obtain ⟨y160, hy160⟩ : ∃ y_ : List ByteArray, y_ = (([(⟨#[104, 97, 108, 116]⟩ : ByteArray), (⟨#[109, 111, 118, 105]⟩ : ByteArray), (⟨#[109, 111, 118, 104]⟩ : ByteArray), (⟨#[109, 111, 118]⟩ : ByteArray), (⟨#[97, 100, 100]⟩ : ByteArray), (⟨#[115, 117, 98]⟩ : ByteArray), (⟨#[109, 117, 108]⟩ : ByteArray), (⟨#[100, 105, 118]⟩ : ByteArray), (⟨#[114, 101, 109]⟩ : ByteArray), (⟨#[97, 110, 100]⟩ : ByteArray), (⟨#[111, 114]⟩ : ByteArray), (⟨#[120, 111, 114]⟩ : ByteArray), (⟨#[115, 104, 108]⟩ : ByteArray), (⟨#[115, 104, 114]⟩ : ByteArray), (⟨#[97, 100, 100, 105]⟩ : ByteArray), (⟨#[101, 113]⟩ : ByteArray), (⟨#[108, 116, 117]⟩ : ByteArray), (⟨#[108, 116, 115]⟩ : ByteArray), (⟨#[106, 109, 112]⟩ : ByteArray), (⟨#[106, 122]⟩ : ByteArray), (⟨#[106, 110, 122]⟩ : ByteArray), (⟨#[99, 97, 108, 108]⟩ : ByteArray), (⟨#[106, 114]⟩ : ByteArray), (⟨#[108, 111, 97, 100]⟩ : ByteArray), (⟨#[115, 116, 111, 114, 101]⟩ : ByteArray), (⟨#[116, 114, 97, 112]⟩ : ByteArray)] : List ByteArray)) := ⟨_, rfl⟩
 replace H : (if 0 ≤ a0 then (if a0 < (y160.length : Int) then (some (rdOf ByteArray.empty y160 a0)) else (none)) else (none)) = some r := by first|(rw [hy160]; with_reducible exact H)|(have H2_ := (Option.bind_some _ _).symm.trans H; rw [hy160]; with_reducible exact H2_)|(have H2_ := (Option.bind_some _ _).symm.trans H; with_reducible exact H2_) | with_reducible exact H|(rw [hy160]; exact H)|exact H
 have Ny160 := Q4 hy160
 clear hy160
 by_cases c2 : 0 ≤ a0
 ·rw [if_pos c2] at H
  have c2b0 : decide (0 ≤ a0) = true := Qj c2
  clear c2
  by_cases c3 : a0 < (y160.length : Int)
  ·rw [if_pos c3] at H
   have c3b0 : decide (a0 < (y160.length : Int)) = true := Qj c3
   clear c3
   obtain rfl := Qn H
   go_enter Tryz.func60, Tryz.ntmps60
   go_wp2_with (first|((with_reducible refine gate_dst (N := 4) rfl ?_); refine Kd.R_lit Kd.string _ 9 ?hg (N := 4) ?hd (xs := ([(⟨#[104, 97, 108, 116]⟩ : ByteArray), (⟨#[109, 111, 118, 105]⟩ : ByteArray), (⟨#[109, 111, 118, 104]⟩ : ByteArray), (⟨#[109, 111, 118]⟩ : ByteArray), (⟨#[97, 100, 100]⟩ : ByteArray), (⟨#[115, 117, 98]⟩ : ByteArray), (⟨#[109, 117, 108]⟩ : ByteArray), (⟨#[100, 105, 118]⟩ : ByteArray), (⟨#[114, 101, 109]⟩ : ByteArray), (⟨#[97, 110, 100]⟩ : ByteArray), (⟨#[111, 114]⟩ : ByteArray), (⟨#[120, 111, 114]⟩ : ByteArray), (⟨#[115, 104, 108]⟩ : ByteArray), (⟨#[115, 104, 114]⟩ : ByteArray), (⟨#[97, 100, 100, 105]⟩ : ByteArray), (⟨#[101, 113]⟩ : ByteArray), (⟨#[108, 116, 117]⟩ : ByteArray), (⟨#[108, 116, 115]⟩ : ByteArray), (⟨#[106, 109, 112]⟩ : ByteArray), (⟨#[106, 122]⟩ : ByteArray), (⟨#[106, 110, 122]⟩ : ByteArray), (⟨#[99, 97, 108, 108]⟩ : ByteArray), (⟨#[106, 114]⟩ : ByteArray), (⟨#[108, 111, 97, 100]⟩ : ByteArray), (⟨#[115, 116, 111, 114, 101]⟩ : ByteArray), (⟨#[116, 114, 97, 112]⟩ : ByteArray)] : List ByteArray)) (inner := [.string (⟨#[104, 97, 108, 116]⟩ : ByteArray), .string (⟨#[109, 111, 118, 105]⟩ : ByteArray), .string (⟨#[109, 111, 118, 104]⟩ : ByteArray), .string (⟨#[109, 111, 118]⟩ : ByteArray), .string (⟨#[97, 100, 100]⟩ : ByteArray), .string (⟨#[115, 117, 98]⟩ : ByteArray), .string (⟨#[109, 117, 108]⟩ : ByteArray), .string (⟨#[100, 105, 118]⟩ : ByteArray), .string (⟨#[114, 101, 109]⟩ : ByteArray), .string (⟨#[97, 110, 100]⟩ : ByteArray), .string (⟨#[111, 114]⟩ : ByteArray), .string (⟨#[120, 111, 114]⟩ : ByteArray), .string (⟨#[115, 104, 108]⟩ : ByteArray), .string (⟨#[115, 104, 114]⟩ : ByteArray), .string (⟨#[97, 100, 100, 105]⟩ : ByteArray), .string (⟨#[101, 113]⟩ : ByteArray), .string (⟨#[108, 116, 117]⟩ : ByteArray), .string (⟨#[108, 116, 115]⟩ : ByteArray), .string (⟨#[106, 109, 112]⟩ : ByteArray), .string (⟨#[106, 122]⟩ : ByteArray), .string (⟨#[106, 110, 122]⟩ : ByteArray), .string (⟨#[99, 97, 108, 108]⟩ : ByteArray), .string (⟨#[106, 114]⟩ : ByteArray), .string (⟨#[108, 111, 97, 100]⟩ : ByteArray), .string (⟨#[115, 116, 111, 114, 101]⟩ : ByteArray), .string (⟨#[116, 114, 97, 112]⟩ : ByteArray)]) (ok := fun _ => True) (okp := fun _ => True) ?hr ?hp (fun _ hk => hk) trivial (Below.refl _ _) (Nat.le_refl _) (by simp) ?_; (case hd => rfl); (case hg => rfl); (case hr => first|(go_simp; done)|(go_simp; rfl)); (case hp => exact (Reps.one (show Kd.M Kd.string _ _ _ (⟨#[104, 97, 108, 116]⟩ : ByteArray) [.string (⟨#[104, 97, 108, 116]⟩ : ByteArray)] from rfl) (Reps.one (show Kd.M Kd.string _ _ _ (⟨#[109, 111, 118, 105]⟩ : ByteArray) [.string (⟨#[109, 111, 118, 105]⟩ : ByteArray)] from rfl) (Reps.one (show Kd.M Kd.string _ _ _ (⟨#[109, 111, 118, 104]⟩ : ByteArray) [.string (⟨#[109, 111, 118, 104]⟩ : ByteArray)] from rfl) (Reps.one (show Kd.M Kd.string _ _ _ (⟨#[109, 111, 118]⟩ : ByteArray) [.string (⟨#[109, 111, 118]⟩ : ByteArray)] from rfl) (Reps.one (show Kd.M Kd.string _ _ _ (⟨#[97, 100, 100]⟩ : ByteArray) [.string (⟨#[97, 100, 100]⟩ : ByteArray)] from rfl) (Reps.one (show Kd.M Kd.string _ _ _ (⟨#[115, 117, 98]⟩ : ByteArray) [.string (⟨#[115, 117, 98]⟩ : ByteArray)] from rfl) (Reps.one (show Kd.M Kd.string _ _ _ (⟨#[109, 117, 108]⟩ : ByteArray) [.string (⟨#[109, 117, 108]⟩ : ByteArray)] from rfl) (Reps.one (show Kd.M Kd.string _ _ _ (⟨#[100, 105, 118]⟩ : ByteArray) [.string (⟨#[100, 105, 118]⟩ : ByteArray)] from rfl) (Reps.one (show Kd.M Kd.string _ _ _ (⟨#[114, 101, 109]⟩ : ByteArray) [.string (⟨#[114, 101, 109]⟩ : ByteArray)] from rfl) (Reps.one (show Kd.M Kd.string _ _ _ (⟨#[97, 110, 100]⟩ : ByteArray) [.string (⟨#[97, 110, 100]⟩ : ByteArray)] from rfl) (Reps.one (show Kd.M Kd.string _ _ _ (⟨#[111, 114]⟩ : ByteArray) [.string (⟨#[111, 114]⟩ : ByteArray)] from rfl) (Reps.one (show Kd.M Kd.string _ _ _ (⟨#[120, 111, 114]⟩ : ByteArray) [.string (⟨#[120, 111, 114]⟩ : ByteArray)] from rfl) (Reps.one (show Kd.M Kd.string _ _ _ (⟨#[115, 104, 108]⟩ : ByteArray) [.string (⟨#[115, 104, 108]⟩ : ByteArray)] from rfl) (Reps.one (show Kd.M Kd.string _ _ _ (⟨#[115, 104, 114]⟩ : ByteArray) [.string (⟨#[115, 104, 114]⟩ : ByteArray)] from rfl) (Reps.one (show Kd.M Kd.string _ _ _ (⟨#[97, 100, 100, 105]⟩ : ByteArray) [.string (⟨#[97, 100, 100, 105]⟩ : ByteArray)] from rfl) (Reps.one (show Kd.M Kd.string _ _ _ (⟨#[101, 113]⟩ : ByteArray) [.string (⟨#[101, 113]⟩ : ByteArray)] from rfl) (Reps.one (show Kd.M Kd.string _ _ _ (⟨#[108, 116, 117]⟩ : ByteArray) [.string (⟨#[108, 116, 117]⟩ : ByteArray)] from rfl) (Reps.one (show Kd.M Kd.string _ _ _ (⟨#[108, 116, 115]⟩ : ByteArray) [.string (⟨#[108, 116, 115]⟩ : ByteArray)] from rfl) (Reps.one (show Kd.M Kd.string _ _ _ (⟨#[106, 109, 112]⟩ : ByteArray) [.string (⟨#[106, 109, 112]⟩ : ByteArray)] from rfl) (Reps.one (show Kd.M Kd.string _ _ _ (⟨#[106, 122]⟩ : ByteArray) [.string (⟨#[106, 122]⟩ : ByteArray)] from rfl) (Reps.one (show Kd.M Kd.string _ _ _ (⟨#[106, 110, 122]⟩ : ByteArray) [.string (⟨#[106, 110, 122]⟩ : ByteArray)] from rfl) (Reps.one (show Kd.M Kd.string _ _ _ (⟨#[99, 97, 108, 108]⟩ : ByteArray) [.string (⟨#[99, 97, 108, 108]⟩ : ByteArray)] from rfl) (Reps.one (show Kd.M Kd.string _ _ _ (⟨#[106, 114]⟩ : ByteArray) [.string (⟨#[106, 114]⟩ : ByteArray)] from rfl) (Reps.one (show Kd.M Kd.string _ _ _ (⟨#[108, 111, 97, 100]⟩ : ByteArray) [.string (⟨#[108, 111, 97, 100]⟩ : ByteArray)] from rfl) (Reps.one (show Kd.M Kd.string _ _ _ (⟨#[115, 116, 111, 114, 101]⟩ : ByteArray) [.string (⟨#[115, 116, 111, 114, 101]⟩ : ByteArray)] from rfl) (Reps.one (show Kd.M Kd.string _ _ _ (⟨#[116, 114, 97, 112]⟩ : ByteArray) [.string (⟨#[116, 114, 97, 112]⟩ : ByteArray)] from rfl) (Reps.none _ _)))))))))))))))))))))))))))); intro v161 w4 ho5 hb hg_ hnew_; clear hg_ hnew_; (first | rw [← Ny160.out] at ho5|(simp only [Int.reduceToNat] at ho5; rw [← Ny160.out] at ho5)); have n0_ := Q4 (Kd.R_lower ho5 bZ); have n1_ := Q4 (Qg (by repeat (first|(with_reducible first|exact HB.out|apply Q8|apply Q5|apply Q9)|exact HB.out)) hb); clear HB; have HO162 := n0_; have HB := n1_; clear n0_ n1_; clear hb ho5; obtain ⟨Ao6, co6, eo6⟩ := Kd.R_slice HO162.out; subst eo6; have p163 : 0 ≤ (a0 : Int) := Qc (by first|(with_reducible assumption)|assumption); have q163 : a0 < (y160.length : Int) := Qc (by first|(with_reducible assumption)|assumption); obtain ⟨ad163, e163, hx163_0⟩ := Kd.at_string (Kd.R_reads' HO162.out).2.2 a0 p163 q163; cases e163; replace p163 := eq_true p163; replace q163 := eq_true q163))
   go_ret
   exact ⟨by first|rfl|(simp [errW_none, errW_some] <;> rfl)|(simp [*, errW_none, errW_some] <;> rfl), by repeat (first|(with_reducible first|exact HB.out|apply Q8|apply Q5|apply Q9)|exact HB.out)⟩
  ·rw [if_neg c3] at H
   exact absurd H (by simp)
 ·rw [if_neg c2] at H
  exact absurd H (by simp)

/-! ### curtilageref08_Digits: function 62 -/
mutual
def curtilageref08_Digits.j0 : Nat → ByteArray → Int → Option (ByteArray)
 | 0, _, _ => none
 | k + 1, x3, x4 => curtilageref08_Digits.l0 k x3 x4 (⟨#[]⟩ : ByteArray)
def curtilageref08_Digits.l0 : Nat → ByteArray → Int → ByteArray → Option (ByteArray)
 | 0, _, _, _ => none
 | k + 1, x3, x4, x5 => if x4 ≥ 10 then ((some (([(IntKind.u64.wrap (48 + (Int.tmod x4 10))) % 256] : List Int) : List Int)).bind fun y164 => (if (strOfNums y164).size + x5.size ≤ 9223372036854775807 then (curtilageref08_Digits.l0 k x3 (IntKind.u64.wrap (Int.tdiv x4 10)) ((strOfNums y164) ++ x5)) else (none))) else ((some (([(IntKind.u64.wrap (48 + x4)) % 256] : List Int) : List Int)).bind fun y167 => (if x3.size + (strOfNums y167).size ≤ 9223372036854775807 then (if (x3 ++ (strOfNums y167)).size + x5.size ≤ 9223372036854775807 then (some ((x3 ++ (strOfNums y167)) ++ x5)) else (none)) else (none)))
end
def curtilageref08_Digits.f (k : Nat) (a0 : Int) : Option (ByteArray) := if a0 < 0 then (curtilageref08_Digits.j0 k (⟨#[45]⟩ : ByteArray) (IntKind.u64.wrap (-(IntKind.u64.wrap (a0))))) else (curtilageref08_Digits.j0 k (⟨#[]⟩ : ByteArray) (IntKind.u64.wrap (a0)))
set_option maxHeartbeats 8000000 in
set_option maxRecDepth 100000 in
theorem curtilageref08_Digits.calls (k : Nat) (a0 : Int) (r : ByteArray) (w : World) (h : curtilageref08_Digits.f k a0 = some r) :
  Calls Tryz.prog 62 #[.int .i64 a0] w fun e w' => e = .returned (.string r) ∧ Below w.heap.size w w' := by
 have HB := Q4 (Below.refl w.heap.size w)
 have H := h
 unfold curtilageref08_Digits.f at H
 clear h
 have HC2 := Q4 H
 clear H
 go_enter Tryz.func62, Tryz.ntmps62
 go_upto_if 9 with (fail)
 go_cut [3, 4] (fun v3 v4 wc => ∃ (kq : Nat) (x3_1 : ByteArray) (x4_1 : Int), v3 = .string x3_1 ∧ v4 = .int .u64 x4_1 ∧ Aside0 (curtilageref08_Digits.j0 kq x3_1 x4_1 = some r) ∧ Aside0 (kq ≤ k) ∧ Aside0 (Below w.heap.size w wc))
 case first =>
  have H := HC2.out
  clear HC2
  by_cases c3 : a0 < 0
  ·rw [if_pos c3] at H
   have c3b0 : decide (a0 < 0) = true := Qj c3
   clear c3
   (first | rw [c3b0]|(simp only [i64_w, i32_w]; rw [c3b0])|skip)
   have H' := Q4 H
   clear H
   go_wp2
   go_meet
   case rel => exact ⟨_, ((⟨#[45]⟩ : ByteArray)), (IntKind.u64.wrap (-(IntKind.u64.wrap (a0)))), (by first|rfl|(simp; done)|(simp [*]; done)), (by first|rfl|(simp; done)|(simp [*]; done)), H', ⟨by first|omega|exact Nat.le_refl _⟩, ⟨by repeat (first|(with_reducible first|exact HB.out|apply Q8|apply Q5|apply Q9)|exact HB.out)⟩⟩
  ·rw [if_neg c3] at H
   have c3b0 : decide (a0 < 0) = false := decide_eq_false c3
   clear c3
   (first | rw [c3b0]|(simp only [i64_w, i32_w]; rw [c3b0])|skip)
   have H' := Q4 H
   clear H
   go_wp2
   go_meet
   case rel => exact ⟨_, ((⟨#[]⟩ : ByteArray)), (IntKind.u64.wrap (a0)), (by first|rfl|(simp; done)|(simp [*]; done)), (by first|rfl|(simp; done)|(simp [*]; done)), H', ⟨by first|omega|exact Nat.le_refl _⟩, ⟨by repeat (first|(with_reducible first|exact HB.out|apply Q8|apply Q5|apply Q9)|exact HB.out)⟩⟩
 case rest =>
  clear HC2
  (try clear p2);(try clear c3);(try clear c3b0)
  obtain ⟨kq, x3_1, x4_1, rfl, rfl, HA, HJ1, HB⟩ := hcut
  cases kq with
  | zero => exact absurd HA.out (by simp [curtilageref08_Digits.j0])
  | succ kj1 =>
   have H := HA.out
   clear HA
   simp only [curtilageref08_Digits.j0] at H
   have H' := Q4 H
   clear H
   go_wp2
   go_loopg [4, 5] kj1 (fun kq v4 v5 w' => ∃ (x4_2 : Int) (x5_2 : ByteArray), v4 = .int .u64 x4_2 ∧ v5 = .string x5_2 ∧ Aside0 (curtilageref08_Digits.l0 kq x3_1 x4_2 x5_2 = some r) ∧ Aside0 (kq ≤ kj1) ∧ Aside0 (Below w.heap.size w w'))
   case atStart => exact ⟨(x4_1), ((⟨#[]⟩ : ByteArray)), (by first|rfl|(simp; done)|(simp [*]; done)), (by first|rfl|(simp; done)|(simp [*]; done)), H', ⟨Nat.le_refl _⟩, ⟨by repeat (first|(with_reducible first|exact HB.out|apply Q8|apply Q5|apply Q9)|exact HB.out)⟩⟩
   case round =>
    clear H'
    (try clear p2);(try clear c3);(try clear c3b0);(try clear p2)
    obtain ⟨x4_2, x5_2, rfl, rfl, HA, HK2, HB⟩ := hrel
    cases gk with
    | zero => exact absurd HA.out (by simp [curtilageref08_Digits.l0])
    | succ k2 =>
     have H := HA.out
     clear HA
     simp only [curtilageref08_Digits.l0] at H
     by_cases c4 : x4_2 ≥ 10
     ·rw [if_pos c4] at H
      have c4b0 : decide (10 ≤ x4_2) = true := Qj c4
      clear c4
      obtain ⟨y164, hy164⟩ : ∃ y_ : List Int, y_ = (([(IntKind.u64.wrap (48 + (Int.tmod x4_2 10))) % 256] : List Int)) := ⟨_, rfl⟩
      replace H : (if (strOfNums y164).size + x5_2.size ≤ 9223372036854775807 then (curtilageref08_Digits.l0 k2 x3_1 (IntKind.u64.wrap (Int.tdiv x4_2 10)) ((strOfNums y164) ++ x5_2)) else (none)) = some r := by first|(rw [hy164]; with_reducible exact H)|(have H2_ := (Option.bind_some _ _).symm.trans H; rw [hy164]; with_reducible exact H2_)|(have H2_ := (Option.bind_some _ _).symm.trans H; with_reducible exact H2_) | with_reducible exact H|(rw [hy164]; exact H)|exact H
      have Ny164 := Q4 hy164
      clear hy164
      by_cases c5 : (strOfNums y164).size + x5_2.size ≤ 9223372036854775807
      ·rw [if_pos c5] at H
       have c5b0 := eq_true c5
       have c5b1 : decide ((strOfNums y164).size + x5_2.size ≤ 9223372036854775807) = true := Qj c5
       try have c5b2 : (9223372036854775807 < (strOfNums y164).size + x5_2.size) = False := eq_false (Nat.not_lt.2 c5)
       have H' := Q4 H
       clear H
       go_wp2_with (first|((with_reducible refine gate_dst (N := 18) rfl ?_); refine Kd.R_lit (Kd.int .u8) _ 5 ?hg (N := 18) ?hd (xs := ([(IntKind.u64.wrap (48 + (Int.tmod x4_2 10))) % 256] : List Int)) (inner := [.int .u8 ((IntKind.u64.wrap (48 + (Int.tmod x4_2 10))) % 256)]) (ok := fun _ => True) (okp := fun _ => True) ?hr ?hp (fun _ hk => hk) trivial (Below.refl _ _) (Nat.le_refl _) (by simp) ?_; (case hd => rfl); (case hg => rfl); (case hr => first|(go_simp; done)|(go_simp; rfl)); (case hp => exact (Reps.one (show Kd.M (Kd.int .u8) _ _ _ ((IntKind.u64.wrap (48 + (Int.tmod x4_2 10))) % 256) [.int .u8 ((IntKind.u64.wrap (48 + (Int.tmod x4_2 10))) % 256)] from rfl) (Reps.none _ _))); intro v165 w6 ho7 hb hg_ hnew_; clear hg_ hnew_; (first | rw [← Ny164.out] at ho7|(simp only [Int.reduceToNat] at ho7; rw [← Ny164.out] at ho7)); have n0_ := Q4 (Kd.R_lower ho7 bZ); have n1_ := Q4 (Qg (by repeat (first|(with_reducible first|exact HB.out|apply Q8|apply Q5|apply Q9)|exact HB.out)) hb); clear HB; have HO166 := n0_; have HB := n1_; clear n0_ n1_; clear hb ho7; have hcv8 := own_string (P := Tryz.prog) Tryz.underlying47 Tryz.underlying5 Tryz.underlying9 (Kd.own_of_R HO166.out)))
       go_roundg k2
       case measure => have := HJ1.out; have := HK2.out; omega
       case rel => exact ⟨(IntKind.u64.wrap (Int.tdiv x4_2 10)), ((strOfNums y164) ++ x5_2), (by first|rfl|(simp; done)|(simp [*]; done)), (by first|rfl|(simp; done)|(simp [*]; done)), H', ⟨by have := HJ1.out; have := HK2.out; omega⟩, ⟨by repeat (first|(with_reducible first|exact HB.out|apply Q8|apply Q5|apply Q9)|exact HB.out)⟩⟩
      ·rw [if_neg c5] at H
       exact absurd H (by simp)
     ·rw [if_neg c4] at H
      have c4b0 : decide (10 ≤ x4_2) = false := decide_eq_false c4
      clear c4
      obtain ⟨y167, hy167⟩ : ∃ y_ : List Int, y_ = (([(IntKind.u64.wrap (48 + x4_2)) % 256] : List Int)) := ⟨_, rfl⟩
      replace H : (if x3_1.size + (strOfNums y167).size ≤ 9223372036854775807 then (if (x3_1 ++ (strOfNums y167)).size + x5_2.size ≤ 9223372036854775807 then (some ((x3_1 ++ (strOfNums y167)) ++ x5_2)) else (none)) else (none)) = some r := by first|(rw [hy167]; with_reducible exact H)|(have H2_ := (Option.bind_some _ _).symm.trans H; rw [hy167]; with_reducible exact H2_)|(have H2_ := (Option.bind_some _ _).symm.trans H; with_reducible exact H2_) | with_reducible exact H|(rw [hy167]; exact H)|exact H
      have Ny167 := Q4 hy167
      clear hy167
      by_cases c9 : x3_1.size + (strOfNums y167).size ≤ 9223372036854775807
      ·rw [if_pos c9] at H
       have c9b0 := eq_true c9
       have c9b1 : decide (x3_1.size + (strOfNums y167).size ≤ 9223372036854775807) = true := Qj c9
       try have c9b2 : (9223372036854775807 < x3_1.size + (strOfNums y167).size) = False := eq_false (Nat.not_lt.2 c9)
       by_cases c10 : (x3_1 ++ (strOfNums y167)).size + x5_2.size ≤ 9223372036854775807
       ·rw [if_pos c10] at H
        have c10b0 := eq_true c10
        have c10b1 : decide ((x3_1 ++ (strOfNums y167)).size + x5_2.size ≤ 9223372036854775807) = true := Qj c10
        try have c10b2 : (9223372036854775807 < (x3_1 ++ (strOfNums y167)).size + x5_2.size) = False := eq_false (Nat.not_lt.2 c10)
        obtain rfl := Qn H
        go_wp2_with (first|((with_reducible refine gate_dst (N := 28) rfl ?_); refine Kd.R_lit (Kd.int .u8) _ 5 ?hg (N := 28) ?hd (xs := ([(IntKind.u64.wrap (48 + x4_2)) % 256] : List Int)) (inner := [.int .u8 ((IntKind.u64.wrap (48 + x4_2)) % 256)]) (ok := fun _ => True) (okp := fun _ => True) ?hr ?hp (fun _ hk => hk) trivial (Below.refl _ _) (Nat.le_refl _) (by simp) ?_; (case hd => rfl); (case hg => rfl); (case hr => first|(go_simp; done)|(go_simp; rfl)); (case hp => exact (Reps.one (show Kd.M (Kd.int .u8) _ _ _ ((IntKind.u64.wrap (48 + x4_2)) % 256) [.int .u8 ((IntKind.u64.wrap (48 + x4_2)) % 256)] from rfl) (Reps.none _ _))); intro v168 w11 ho12 hb hg_ hnew_; clear hg_ hnew_; (first | rw [← Ny167.out] at ho12|(simp only [Int.reduceToNat] at ho12; rw [← Ny167.out] at ho12)); have n0_ := Q4 (Kd.R_lower ho12 bZ); have n1_ := Q4 (Qg (by repeat (first|(with_reducible first|exact HB.out|apply Q8|apply Q5|apply Q9)|exact HB.out)) hb); clear HB; have HO169 := n0_; have HB := n1_; clear n0_ n1_; clear hb ho12; have hcv13 := own_string (P := Tryz.prog) Tryz.underlying47 Tryz.underlying5 Tryz.underlying9 (Kd.own_of_R HO169.out)))
        go_ret
        exact ⟨by first|rfl|(simp [errW_none, errW_some] <;> rfl)|(simp [*, errW_none, errW_some] <;> rfl), by repeat (first|(with_reducible first|exact HB.out|apply Q8|apply Q5|apply Q9)|exact HB.out)⟩
       ·rw [if_neg c10] at H
        exact absurd H (by simp)
      ·rw [if_neg c9] at H
       exact absurd H (by simp)

end Go.Proofs.YtbelnkdbghggmaaGreatDoor.X
