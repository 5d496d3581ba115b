/- Texts of this claim that stand one behind another, merged. -/
import Derived.Test.YtbelnkdbghggmaaGreatDoorMg2
import Derived.Test.YtbelnkdbghggmaaGreatDoorMg6
import Derived.Test.YtbelnkdbghggmaaGreatDoorMg7
import Derived.Test.YtbelnkdbghggmaaGreatDoorMg3
import Derived.Lib.SplitLaws
import Derived.Lib.ParseIntBTie
import Derived.Lib.ItoaMem
import Derived.Lib.ItoaLen
import Derived.Lib.Strings
namespace Go.Proofs.YtbelnkdbghggmaaGreatDoor.X
open Go.RowKit Go.Proofs.YtbelnkdbghggmaaGreatDoorW.PrintWords Go.Proofs.YtbelnkdbghggmaaGreatDoorW.PrintLast

set_option linter.unusedVariables false
set_option linter.unusedSimpArgs false

/-! ### curtilageref10_word: function 45 -/
def curtilageref10_word.l0 : Nat → ByteArray → Int → Option (Bool)
 | 0, _, _ => none
 | k + 1, x0, x3 => if x3 < (x0.size : Int) then (if 0 ≤ x3 then (if (bt x0 x3) ≥ 48 then (if ((bt x0 x3) ≤ 57) then (if x3 = 0 then (if (bt x0 x3) ≤ 57 then (some false) else (curtilageref10_word.l0 k x0 (wrap64 (x3 + 1)))) else (curtilageref10_word.l0 k x0 (wrap64 (x3 + 1)))) else (if (bt x0 x3) = 95 then (if x3 = 0 then (if (bt x0 x3) ≤ 57 then (some false) else (curtilageref10_word.l0 k x0 (wrap64 (x3 + 1)))) else (curtilageref10_word.l0 k x0 (wrap64 (x3 + 1)))) else (if (bt x0 x3) < 97 then (if (bt x0 x3) < 65 then (some false) else (if (bt x0 x3) > 90 then (some false) else (if x3 = 0 then (if (bt x0 x3) ≤ 57 then (some false) else (curtilageref10_word.l0 k x0 (wrap64 (x3 + 1)))) else (curtilageref10_word.l0 k x0 (wrap64 (x3 + 1)))))) else (if (bt x0 x3) > 122 then (if (bt x0 x3) < 65 then (some false) else (if (bt x0 x3) > 90 then (some false) else (if x3 = 0 then (if (bt x0 x3) ≤ 57 then (some false) else (curtilageref10_word.l0 k x0 (wrap64 (x3 + 1)))) else (curtilageref10_word.l0 k x0 (wrap64 (x3 + 1)))))) else (if x3 = 0 then (if (bt x0 x3) ≤ 57 then (some false) else (curtilageref10_word.l0 k x0 (wrap64 (x3 + 1)))) else (curtilageref10_word.l0 k x0 (wrap64 (x3 + 1)))))))) else (if (bt x0 x3) = 95 then (if x3 = 0 then (curtilageref10_word.l0 k x0 (wrap64 (x3 + 1))) else (curtilageref10_word.l0 k x0 (wrap64 (x3 + 1)))) else (if (bt x0 x3) < 97 then (if (bt x0 x3) < 65 then (some false) else (if (bt x0 x3) > 90 then (some false) else (if x3 = 0 then (curtilageref10_word.l0 k x0 (wrap64 (x3 + 1))) else (curtilageref10_word.l0 k x0 (wrap64 (x3 + 1)))))) else (if (bt x0 x3) > 122 then (if (bt x0 x3) < 65 then (some false) else (if (bt x0 x3) > 90 then (some false) else (if x3 = 0 then (curtilageref10_word.l0 k x0 (wrap64 (x3 + 1))) else (curtilageref10_word.l0 k x0 (wrap64 (x3 + 1)))))) else (if x3 = 0 then (curtilageref10_word.l0 k x0 (wrap64 (x3 + 1))) else (curtilageref10_word.l0 k x0 (wrap64 (x3 + 1)))))))) else (none)) else (if (x0.size : Int) ≥ 1 then (some (decide ((x0.size : Int) ≤ 16))) else (some false))
def curtilageref10_word.f (k : Nat) (a0 : ByteArray) : Option (Bool) := curtilageref10_word.l0 k a0 0
set_option maxHeartbeats 8000000 in
set_option maxRecDepth 100000 in
theorem curtilageref10_word.calls (k : Nat) (a0 : ByteArray) (r : Bool) (w : World) (h : curtilageref10_word.f k a0 = some r) :
  Calls Tryz.prog 45 #[.string a0] w fun e w' => e = .returned (.bool r) ∧ Drawn0 w w' := by
 have H : (curtilageref10_word.l0 k a0 0) = some r := h
 clear h
 have H' := Q4 H
 clear H
 go_enter Tryz.func45, Tryz.ntmps45
 go_wp2
 go_loopg [3] k (fun kq v3 w' => ∃ (x3_1 : Int), v3 = .int .i64 x3_1 ∧ Aside0 (curtilageref10_word.l0 kq a0 x3_1 = some r) ∧ Aside0 (kq ≤ k) ∧ Drawn0 w w')
 case atStart => exact ⟨(0), (by first|rfl|(simp; done)|(simp [*]; done)), H', ⟨Nat.le_refl _⟩, by repeat (first|exact Drawn0.refl _|apply Drawn0.step)⟩
 case round =>
  clear H'
  obtain ⟨x3_1, rfl, HA, HK1, ⟨m1, rfl⟩⟩ := hrel
  cases gk with
  | zero => exact absurd HA.out (by simp [curtilageref10_word.l0])
  | succ k1 =>
   have H := HA.out
   clear HA
   simp only [curtilageref10_word.l0] at H
   by_cases c2 : x3_1 < (a0.size : Int)
   ·rw [if_pos c2] at H
    have c2b0 : decide (x3_1 < (a0.size : Int)) = true := Qj c2
    clear c2
    by_cases c3 : 0 ≤ x3_1
    ·rw [if_pos c3] at H
     have c3b0 : decide (0 ≤ x3_1) = true := Qj c3
     clear c3
     by_cases c5 : (bt a0 x3_1) ≥ 48
     ·rw [if_pos c5] at H
      have c5b0 : decide (48 ≤ (bt a0 x3_1)) = true := Qj c5
      clear c5
      by_cases c6 : ((bt a0 x3_1) ≤ 57)
      ·rw [if_pos c6] at H
       have c6b0 : decide ((bt a0 x3_1) ≤ 57) = true := Qj c6
       clear c6
       by_cases c7 : x3_1 = 0
       ·rw [if_pos c7] at H
        have c7b0 : (x3_1 == 0) = true := Qm c7
        have c7b1 : (x3_1 != 0) = false := Qh c7
        clear c7
        by_cases c8 : (bt a0 x3_1) ≤ 57
        ·rw [if_pos c8] at H
         have c8b0 : decide ((bt a0 x3_1) ≤ 57) = true := Qj c8
         clear c8
         obtain rfl := Qn H
         have p4 : 0 ≤ (x3_1 : Int) := Qc (by first|(with_reducible assumption)|assumption)
         have q4 : x3_1 < (a0.size : Int) := Qc (by first|(with_reducible assumption)|assumption)
         have hx4 := bt_at a0 x3_1
         replace p4 := eq_true p4
         replace q4 := eq_true q4
         go_wp2
         go_ret
         exact ⟨by first|rfl|(simp; done)|(simp [*]; done), by repeat (first|exact Drawn0.refl _|apply Drawn0.step)⟩
        ·exact absurd (Qc c6b0) c8
       ·rw [if_neg c7] at H
        have c7b0 : (x3_1 == 0) = false := Qk c7
        have c7b1 : (x3_1 != 0) = true := Ql c7
        have H' := Q4 H
        clear H
        have p4 : 0 ≤ (x3_1 : Int) := Qc (by first|(with_reducible assumption)|assumption)
        have q4 : x3_1 < (a0.size : Int) := Qc (by first|(with_reducible assumption)|assumption)
        have hx4 := bt_at a0 x3_1
        replace p4 := eq_true p4
        replace q4 := eq_true q4
        go_wp2
        go_roundg k1
        case measure => have := HK1.out; omega
        case rel => exact ⟨(wrap64 (x3_1 + 1)), (by first|rfl|(simp; done)|(simp [*]; done)), H', ⟨by have := HK1.out; omega⟩, by repeat (first|exact Drawn0.refl _|apply Drawn0.step)⟩
      ·rw [if_neg c6] at H
       have c6b0 : decide ((bt a0 x3_1) ≤ 57) = false := decide_eq_false c6
       clear c6
       by_cases c9 : (bt a0 x3_1) = 95
       ·rw [if_pos c9] at H
        have c9b0 : ((bt a0 x3_1) == 95) = true := Qm c9
        have c9b1 : ((bt a0 x3_1) != 95) = false := Qh c9
        clear c9
        by_cases c10 : x3_1 = 0
        ·rw [if_pos c10] at H
         have c10b0 : (x3_1 == 0) = true := Qm c10
         have c10b1 : (x3_1 != 0) = false := Qh c10
         clear c10
         by_cases c11 : (bt a0 x3_1) ≤ 57
         ·exact absurd c11 (of_decide_eq_false c6b0)
         ·rw [if_neg c11] at H
          have c11b0 : decide ((bt a0 x3_1) ≤ 57) = false := decide_eq_false c11
          clear c11
          have H' := Q4 H
          clear H
          have p4 : 0 ≤ (x3_1 : Int) := Qc (by first|(with_reducible assumption)|assumption)
          have q4 : x3_1 < (a0.size : Int) := Qc (by first|(with_reducible assumption)|assumption)
          have hx4 := bt_at a0 x3_1
          replace p4 := eq_true p4
          replace q4 := eq_true q4
          go_wp2
          go_roundg k1
          case measure => have := HK1.out; omega
          case rel => exact ⟨(wrap64 (x3_1 + 1)), (by first|rfl|(simp; done)|(simp [*]; done)), H', ⟨by have := HK1.out; omega⟩, by repeat (first|exact Drawn0.refl _|apply Drawn0.step)⟩
        ·rw [if_neg c10] at H
         have c10b0 : (x3_1 == 0) = false := Qk c10
         have c10b1 : (x3_1 != 0) = true := Ql c10
         have H' := Q4 H
         clear H
         have p4 : 0 ≤ (x3_1 : Int) := Qc (by first|(with_reducible assumption)|assumption)
         have q4 : x3_1 < (a0.size : Int) := Qc (by first|(with_reducible assumption)|assumption)
         have hx4 := bt_at a0 x3_1
         replace p4 := eq_true p4
         replace q4 := eq_true q4
         go_wp2
         go_roundg k1
         case measure => have := HK1.out; omega
         case rel => exact ⟨(wrap64 (x3_1 + 1)), (by first|rfl|(simp; done)|(simp [*]; done)), H', ⟨by have := HK1.out; omega⟩, by repeat (first|exact Drawn0.refl _|apply Drawn0.step)⟩
       ·rw [if_neg c9] at H
        have c9b0 : ((bt a0 x3_1) == 95) = false := Qk c9
        have c9b1 : ((bt a0 x3_1) != 95) = true := Ql c9
        by_cases c12 : (bt a0 x3_1) < 97
        ·rw [if_pos c12] at H
         have c12b0 : decide ((bt a0 x3_1) < 97) = true := Qj c12
         clear c12
         by_cases c13 : (bt a0 x3_1) < 65
         ·rw [if_pos c13] at H
          have c13b0 : decide ((bt a0 x3_1) < 65) = true := Qj c13
          clear c13
          obtain rfl := Qn H
          have p4 : 0 ≤ (x3_1 : Int) := Qc (by first|(with_reducible assumption)|assumption)
          have q4 : x3_1 < (a0.size : Int) := Qc (by first|(with_reducible assumption)|assumption)
          have hx4 := bt_at a0 x3_1
          replace p4 := eq_true p4
          replace q4 := eq_true q4
          go_wp2
          go_ret
          exact ⟨by first|rfl|(simp; done)|(simp [*]; done), by repeat (first|exact Drawn0.refl _|apply Drawn0.step)⟩
         ·rw [if_neg c13] at H
          have c13b0 : decide ((bt a0 x3_1) < 65) = false := decide_eq_false c13
          clear c13
          by_cases c14 : (bt a0 x3_1) > 90
          ·rw [if_pos c14] at H
           have c14b0 : decide (90 < (bt a0 x3_1)) = true := Qj c14
           clear c14
           obtain rfl := Qn H
           have p4 : 0 ≤ (x3_1 : Int) := Qc (by first|(with_reducible assumption)|assumption)
           have q4 : x3_1 < (a0.size : Int) := Qc (by first|(with_reducible assumption)|assumption)
           have hx4 := bt_at a0 x3_1
           replace p4 := eq_true p4
           replace q4 := eq_true q4
           go_wp2
           go_ret
           exact ⟨by first|rfl|(simp; done)|(simp [*]; done), by repeat (first|exact Drawn0.refl _|apply Drawn0.step)⟩
          ·rw [if_neg c14] at H
           have c14b0 : decide (90 < (bt a0 x3_1)) = false := decide_eq_false c14
           clear c14
           by_cases c15 : x3_1 = 0
           ·rw [if_pos c15] at H
            have c15b0 : (x3_1 == 0) = true := Qm c15
            have c15b1 : (x3_1 != 0) = false := Qh c15
            clear c15
            by_cases c16 : (bt a0 x3_1) ≤ 57
            ·exact absurd c16 (of_decide_eq_false c6b0)
            ·rw [if_neg c16] at H
             have c16b0 : decide ((bt a0 x3_1) ≤ 57) = false := decide_eq_false c16
             clear c16
             have H' := Q4 H
             clear H
             have p4 : 0 ≤ (x3_1 : Int) := Qc (by first|(with_reducible assumption)|assumption)
             have q4 : x3_1 < (a0.size : Int) := Qc (by first|(with_reducible assumption)|assumption)
             have hx4 := bt_at a0 x3_1
             replace p4 := eq_true p4
             replace q4 := eq_true q4
             go_wp2
             go_roundg k1
             case measure => have := HK1.out; omega
             case rel => exact ⟨(wrap64 (x3_1 + 1)), (by first|rfl|(simp; done)|(simp [*]; done)), H', ⟨by have := HK1.out; omega⟩, by repeat (first|exact Drawn0.refl _|apply Drawn0.step)⟩
           ·rw [if_neg c15] at H
            have c15b0 : (x3_1 == 0) = false := Qk c15
            have c15b1 : (x3_1 != 0) = true := Ql c15
            have H' := Q4 H
            clear H
            have p4 : 0 ≤ (x3_1 : Int) := Qc (by first|(with_reducible assumption)|assumption)
            have q4 : x3_1 < (a0.size : Int) := Qc (by first|(with_reducible assumption)|assumption)
            have hx4 := bt_at a0 x3_1
            replace p4 := eq_true p4
            replace q4 := eq_true q4
            go_wp2
            go_roundg k1
            case measure => have := HK1.out; omega
            case rel => exact ⟨(wrap64 (x3_1 + 1)), (by first|rfl|(simp; done)|(simp [*]; done)), H', ⟨by have := HK1.out; omega⟩, by repeat (first|exact Drawn0.refl _|apply Drawn0.step)⟩
        ·rw [if_neg c12] at H
         have c12b0 : decide ((bt a0 x3_1) < 97) = false := decide_eq_false c12
         clear c12
         by_cases c17 : (bt a0 x3_1) > 122
         ·rw [if_pos c17] at H
          have c17b0 : decide (122 < (bt a0 x3_1)) = true := Qj c17
          clear c17
          by_cases c18 : (bt a0 x3_1) < 65
          ·rw [if_pos c18] at H
           have c18b0 : decide ((bt a0 x3_1) < 65) = true := Qj c18
           clear c18
           obtain rfl := Qn H
           have p4 : 0 ≤ (x3_1 : Int) := Qc (by first|(with_reducible assumption)|assumption)
           have q4 : x3_1 < (a0.size : Int) := Qc (by first|(with_reducible assumption)|assumption)
           have hx4 := bt_at a0 x3_1
           replace p4 := eq_true p4
           replace q4 := eq_true q4
           go_wp2
           go_ret
           exact ⟨by first|rfl|(simp; done)|(simp [*]; done), by repeat (first|exact Drawn0.refl _|apply Drawn0.step)⟩
          ·rw [if_neg c18] at H
           have c18b0 : decide ((bt a0 x3_1) < 65) = false := decide_eq_false c18
           clear c18
           by_cases c19 : (bt a0 x3_1) > 90
           ·rw [if_pos c19] at H
            have c19b0 : decide (90 < (bt a0 x3_1)) = true := Qj c19
            clear c19
            obtain rfl := Qn H
            have p4 : 0 ≤ (x3_1 : Int) := Qc (by first|(with_reducible assumption)|assumption)
            have q4 : x3_1 < (a0.size : Int) := Qc (by first|(with_reducible assumption)|assumption)
            have hx4 := bt_at a0 x3_1
            replace p4 := eq_true p4
            replace q4 := eq_true q4
            go_wp2
            go_ret
            exact ⟨by first|rfl|(simp; done)|(simp [*]; done), by repeat (first|exact Drawn0.refl _|apply Drawn0.step)⟩
           ·rw [if_neg c19] at H
            have c19b0 : decide (90 < (bt a0 x3_1)) = false := decide_eq_false c19
            clear c19
            by_cases c20 : x3_1 = 0
            ·rw [if_pos c20] at H
             have c20b0 : (x3_1 == 0) = true := Qm c20
             have c20b1 : (x3_1 != 0) = false := Qh c20
             clear c20
             by_cases c21 : (bt a0 x3_1) ≤ 57
             ·exact absurd c21 (of_decide_eq_false c6b0)
             ·rw [if_neg c21] at H
              have c21b0 : decide ((bt a0 x3_1) ≤ 57) = false := decide_eq_false c21
              clear c21
              have H' := Q4 H
              clear H
              have p4 : 0 ≤ (x3_1 : Int) := Qc (by first|(with_reducible assumption)|assumption)
              have q4 : x3_1 < (a0.size : Int) := Qc (by first|(with_reducible assumption)|assumption)
              have hx4 := bt_at a0 x3_1
              replace p4 := eq_true p4
              replace q4 := eq_true q4
              go_wp2
              go_roundg k1
              case measure => have := HK1.out; omega
              case rel => exact ⟨(wrap64 (x3_1 + 1)), (by first|rfl|(simp; done)|(simp [*]; done)), H', ⟨by have := HK1.out; omega⟩, by repeat (first|exact Drawn0.refl _|apply Drawn0.step)⟩
            ·rw [if_neg c20] at H
             have c20b0 : (x3_1 == 0) = false := Qk c20
             have c20b1 : (x3_1 != 0) = true := Ql c20
             have H' := Q4 H
             clear H
             have p4 : 0 ≤ (x3_1 : Int) := Qc (by first|(with_reducible assumption)|assumption)
             have q4 : x3_1 < (a0.size : Int) := Qc (by first|(with_reducible assumption)|assumption)
             have hx4 := bt_at a0 x3_1
             replace p4 := eq_true p4
             replace q4 := eq_true q4
             go_wp2
             go_roundg k1
             case measure => have := HK1.out; omega
             case rel => exact ⟨(wrap64 (x3_1 + 1)), (by first|rfl|(simp; done)|(simp [*]; done)), H', ⟨by have := HK1.out; omega⟩, by repeat (first|exact Drawn0.refl _|apply Drawn0.step)⟩
         ·rw [if_neg c17] at H
          have c17b0 : decide (122 < (bt a0 x3_1)) = false := decide_eq_false c17
          clear c17
          by_cases c22 : x3_1 = 0
          ·rw [if_pos c22] at H
           have c22b0 : (x3_1 == 0) = true := Qm c22
           have c22b1 : (x3_1 != 0) = false := Qh c22
           clear c22
           by_cases c23 : (bt a0 x3_1) ≤ 57
           ·exact absurd c23 (of_decide_eq_false c6b0)
           ·rw [if_neg c23] at H
            have c23b0 : decide ((bt a0 x3_1) ≤ 57) = false := decide_eq_false c23
            clear c23
            have H' := Q4 H
            clear H
            have p4 : 0 ≤ (x3_1 : Int) := Qc (by first|(with_reducible assumption)|assumption)
            have q4 : x3_1 < (a0.size : Int) := Qc (by first|(with_reducible assumption)|assumption)
            have hx4 := bt_at a0 x3_1
            replace p4 := eq_true p4
            replace q4 := eq_true q4
            go_wp2
            go_roundg k1
            case measure => have := HK1.out; omega
            case rel => exact ⟨(wrap64 (x3_1 + 1)), (by first|rfl|(simp; done)|(simp [*]; done)), H', ⟨by have := HK1.out; omega⟩, by repeat (first|exact Drawn0.refl _|apply Drawn0.step)⟩
          ·rw [if_neg c22] at H
           have c22b0 : (x3_1 == 0) = false := Qk c22
           have c22b1 : (x3_1 != 0) = true := Ql c22
           have H' := Q4 H
           clear H
           have p4 : 0 ≤ (x3_1 : Int) := Qc (by first|(with_reducible assumption)|assumption)
           have q4 : x3_1 < (a0.size : Int) := Qc (by first|(with_reducible assumption)|assumption)
           have hx4 := bt_at a0 x3_1
           replace p4 := eq_true p4
           replace q4 := eq_true q4
           go_wp2
           go_roundg k1
           case measure => have := HK1.out; omega
           case rel => exact ⟨(wrap64 (x3_1 + 1)), (by first|rfl|(simp; done)|(simp [*]; done)), H', ⟨by have := HK1.out; omega⟩, by repeat (first|exact Drawn0.refl _|apply Drawn0.step)⟩
     ·rw [if_neg c5] at H
      have c5b0 : decide (48 ≤ (bt a0 x3_1)) = false := decide_eq_false c5
      clear c5
      by_cases c24 : (bt a0 x3_1) = 95
      ·rw [if_pos c24] at H
       have c24b0 : ((bt a0 x3_1) == 95) = true := Qm c24
       have c24b1 : ((bt a0 x3_1) != 95) = false := Qh c24
       clear c24
       by_cases c25 : x3_1 = 0
       ·rw [if_pos c25] at H
        have c25b0 : (x3_1 == 0) = true := Qm c25
        have c25b1 : (x3_1 != 0) = false := Qh c25
        clear c25
        have H' := Q4 H
        clear H
        have p4 : 0 ≤ (x3_1 : Int) := Qc (by first|(with_reducible assumption)|assumption)
        have q4 : x3_1 < (a0.size : Int) := Qc (by first|(with_reducible assumption)|assumption)
        have hx4 := bt_at a0 x3_1
        replace p4 := eq_true p4
        replace q4 := eq_true q4
        go_wp2
        go_roundg k1
        case measure => have := HK1.out; omega
        case rel => exact ⟨(wrap64 (x3_1 + 1)), (by first|rfl|(simp; done)|(simp [*]; done)), H', ⟨by have := HK1.out; omega⟩, by repeat (first|exact Drawn0.refl _|apply Drawn0.step)⟩
       ·rw [if_neg c25] at H
        have c25b0 : (x3_1 == 0) = false := Qk c25
        have c25b1 : (x3_1 != 0) = true := Ql c25
        have H' := Q4 H
        clear H
        have p4 : 0 ≤ (x3_1 : Int) := Qc (by first|(with_reducible assumption)|assumption)
        have q4 : x3_1 < (a0.size : Int) := Qc (by first|(with_reducible assumption)|assumption)
        have hx4 := bt_at a0 x3_1
        replace p4 := eq_true p4
        replace q4 := eq_true q4
        go_wp2
        go_roundg k1
        case measure => have := HK1.out; omega
        case rel => exact ⟨(wrap64 (x3_1 + 1)), (by first|rfl|(simp; done)|(simp [*]; done)), H', ⟨by have := HK1.out; omega⟩, by repeat (first|exact Drawn0.refl _|apply Drawn0.step)⟩
      ·rw [if_neg c24] at H
       have c24b0 : ((bt a0 x3_1) == 95) = false := Qk c24
       have c24b1 : ((bt a0 x3_1) != 95) = true := Ql c24
       by_cases c26 : (bt a0 x3_1) < 97
       ·rw [if_pos c26] at H
        have c26b0 : decide ((bt a0 x3_1) < 97) = true := Qj c26
        clear c26
        by_cases c27 : (bt a0 x3_1) < 65
        ·rw [if_pos c27] at H
         have c27b0 : decide ((bt a0 x3_1) < 65) = true := Qj c27
         clear c27
         obtain rfl := Qn H
         have p4 : 0 ≤ (x3_1 : Int) := Qc (by first|(with_reducible assumption)|assumption)
         have q4 : x3_1 < (a0.size : Int) := Qc (by first|(with_reducible assumption)|assumption)
         have hx4 := bt_at a0 x3_1
         replace p4 := eq_true p4
         replace q4 := eq_true q4
         go_wp2
         go_ret
         exact ⟨by first|rfl|(simp; done)|(simp [*]; done), by repeat (first|exact Drawn0.refl _|apply Drawn0.step)⟩
        ·rw [if_neg c27] at H
         have c27b0 : decide ((bt a0 x3_1) < 65) = false := decide_eq_false c27
         clear c27
         by_cases c28 : (bt a0 x3_1) > 90
         ·rw [if_pos c28] at H
          have c28b0 : decide (90 < (bt a0 x3_1)) = true := Qj c28
          clear c28
          obtain rfl := Qn H
          have p4 : 0 ≤ (x3_1 : Int) := Qc (by first|(with_reducible assumption)|assumption)
          have q4 : x3_1 < (a0.size : Int) := Qc (by first|(with_reducible assumption)|assumption)
          have hx4 := bt_at a0 x3_1
          replace p4 := eq_true p4
          replace q4 := eq_true q4
          go_wp2
          go_ret
          exact ⟨by first|rfl|(simp; done)|(simp [*]; done), by repeat (first|exact Drawn0.refl _|apply Drawn0.step)⟩
         ·rw [if_neg c28] at H
          have c28b0 : decide (90 < (bt a0 x3_1)) = false := decide_eq_false c28
          clear c28
          by_cases c29 : x3_1 = 0
          ·rw [if_pos c29] at H
           have c29b0 : (x3_1 == 0) = true := Qm c29
           have c29b1 : (x3_1 != 0) = false := Qh c29
           clear c29
           have H' := Q4 H
           clear H
           have p4 : 0 ≤ (x3_1 : Int) := Qc (by first|(with_reducible assumption)|assumption)
           have q4 : x3_1 < (a0.size : Int) := Qc (by first|(with_reducible assumption)|assumption)
           have hx4 := bt_at a0 x3_1
           replace p4 := eq_true p4
           replace q4 := eq_true q4
           go_wp2
           go_roundg k1
           case measure => have := HK1.out; omega
           case rel => exact ⟨(wrap64 (x3_1 + 1)), (by first|rfl|(simp; done)|(simp [*]; done)), H', ⟨by have := HK1.out; omega⟩, by repeat (first|exact Drawn0.refl _|apply Drawn0.step)⟩
          ·rw [if_neg c29] at H
           have c29b0 : (x3_1 == 0) = false := Qk c29
           have c29b1 : (x3_1 != 0) = true := Ql c29
           have H' := Q4 H
           clear H
           have p4 : 0 ≤ (x3_1 : Int) := Qc (by first|(with_reducible assumption)|assumption)
           have q4 : x3_1 < (a0.size : Int) := Qc (by first|(with_reducible assumption)|assumption)
           have hx4 := bt_at a0 x3_1
           replace p4 := eq_true p4
           replace q4 := eq_true q4
           go_wp2
           go_roundg k1
           case measure => have := HK1.out; omega
           case rel => exact ⟨(wrap64 (x3_1 + 1)), (by first|rfl|(simp; done)|(simp [*]; done)), H', ⟨by have := HK1.out; omega⟩, by repeat (first|exact Drawn0.refl _|apply Drawn0.step)⟩
       ·rw [if_neg c26] at H
        have c26b0 : decide ((bt a0 x3_1) < 97) = false := decide_eq_false c26
        clear c26
        by_cases c30 : (bt a0 x3_1) > 122
        ·rw [if_pos c30] at H
         have c30b0 : decide (122 < (bt a0 x3_1)) = true := Qj c30
         clear c30
         by_cases c31 : (bt a0 x3_1) < 65
         ·rw [if_pos c31] at H
          have c31b0 : decide ((bt a0 x3_1) < 65) = true := Qj c31
          clear c31
          obtain rfl := Qn H
          have p4 : 0 ≤ (x3_1 : Int) := Qc (by first|(with_reducible assumption)|assumption)
          have q4 : x3_1 < (a0.size : Int) := Qc (by first|(with_reducible assumption)|assumption)
          have hx4 := bt_at a0 x3_1
          replace p4 := eq_true p4
          replace q4 := eq_true q4
          go_wp2
          go_ret
          exact ⟨by first|rfl|(simp; done)|(simp [*]; done), by repeat (first|exact Drawn0.refl _|apply Drawn0.step)⟩
         ·rw [if_neg c31] at H
          have c31b0 : decide ((bt a0 x3_1) < 65) = false := decide_eq_false c31
          clear c31
          by_cases c32 : (bt a0 x3_1) > 90
          ·rw [if_pos c32] at H
           have c32b0 : decide (90 < (bt a0 x3_1)) = true := Qj c32
           clear c32
           obtain rfl := Qn H
           have p4 : 0 ≤ (x3_1 : Int) := Qc (by first|(with_reducible assumption)|assumption)
           have q4 : x3_1 < (a0.size : Int) := Qc (by first|(with_reducible assumption)|assumption)
           have hx4 := bt_at a0 x3_1
           replace p4 := eq_true p4
           replace q4 := eq_true q4
           go_wp2
           go_ret
           exact ⟨by first|rfl|(simp; done)|(simp [*]; done), by repeat (first|exact Drawn0.refl _|apply Drawn0.step)⟩
          ·rw [if_neg c32] at H
           have c32b0 : decide (90 < (bt a0 x3_1)) = false := decide_eq_false c32
           clear c32
           by_cases c33 : x3_1 = 0
           ·rw [if_pos c33] at H
            have c33b0 : (x3_1 == 0) = true := Qm c33
            have c33b1 : (x3_1 != 0) = false := Qh c33
            clear c33
            have H' := Q4 H
            clear H
            have p4 : 0 ≤ (x3_1 : Int) := Qc (by first|(with_reducible assumption)|assumption)
            have q4 : x3_1 < (a0.size : Int) := Qc (by first|(with_reducible assumption)|assumption)
            have hx4 := bt_at a0 x3_1
            replace p4 := eq_true p4
            replace q4 := eq_true q4
            go_wp2
            go_roundg k1
            case measure => have := HK1.out; omega
            case rel => exact ⟨(wrap64 (x3_1 + 1)), (by first|rfl|(simp; done)|(simp [*]; done)), H', ⟨by have := HK1.out; omega⟩, by repeat (first|exact Drawn0.refl _|apply Drawn0.step)⟩
           ·rw [if_neg c33] at H
            have c33b0 : (x3_1 == 0) = false := Qk c33
            have c33b1 : (x3_1 != 0) = true := Ql c33
            have H' := Q4 H
            clear H
            have p4 : 0 ≤ (x3_1 : Int) := Qc (by first|(with_reducible assumption)|assumption)
            have q4 : x3_1 < (a0.size : Int) := Qc (by first|(with_reducible assumption)|assumption)
            have hx4 := bt_at a0 x3_1
            replace p4 := eq_true p4
            replace q4 := eq_true q4
            go_wp2
            go_roundg k1
            case measure => have := HK1.out; omega
            case rel => exact ⟨(wrap64 (x3_1 + 1)), (by first|rfl|(simp; done)|(simp [*]; done)), H', ⟨by have := HK1.out; omega⟩, by repeat (first|exact Drawn0.refl _|apply Drawn0.step)⟩
        ·rw [if_neg c30] at H
         have c30b0 : decide (122 < (bt a0 x3_1)) = false := decide_eq_false c30
         clear c30
         by_cases c34 : x3_1 = 0
         ·rw [if_pos c34] at H
          have c34b0 : (x3_1 == 0) = true := Qm c34
          have c34b1 : (x3_1 != 0) = false := Qh c34
          clear c34
          have H' := Q4 H
          clear H
          have p4 : 0 ≤ (x3_1 : Int) := Qc (by first|(with_reducible assumption)|assumption)
          have q4 : x3_1 < (a0.size : Int) := Qc (by first|(with_reducible assumption)|assumption)
          have hx4 := bt_at a0 x3_1
          replace p4 := eq_true p4
          replace q4 := eq_true q4
          go_wp2
          go_roundg k1
          case measure => have := HK1.out; omega
          case rel => exact ⟨(wrap64 (x3_1 + 1)), (by first|rfl|(simp; done)|(simp [*]; done)), H', ⟨by have := HK1.out; omega⟩, by repeat (first|exact Drawn0.refl _|apply Drawn0.step)⟩
         ·rw [if_neg c34] at H
          have c34b0 : (x3_1 == 0) = false := Qk c34
          have c34b1 : (x3_1 != 0) = true := Ql c34
          have H' := Q4 H
          clear H
          have p4 : 0 ≤ (x3_1 : Int) := Qc (by first|(with_reducible assumption)|assumption)
          have q4 : x3_1 < (a0.size : Int) := Qc (by first|(with_reducible assumption)|assumption)
          have hx4 := bt_at a0 x3_1
          replace p4 := eq_true p4
          replace q4 := eq_true q4
          go_wp2
          go_roundg k1
          case measure => have := HK1.out; omega
          case rel => exact ⟨(wrap64 (x3_1 + 1)), (by first|rfl|(simp; done)|(simp [*]; done)), H', ⟨by have := HK1.out; omega⟩, by repeat (first|exact Drawn0.refl _|apply Drawn0.step)⟩
    ·rw [if_neg c3] at H
     exact absurd H (by simp)
   ·rw [if_neg c2] at H
    have c2b0 : decide (x3_1 < (a0.size : Int)) = false := decide_eq_false c2
    clear c2
    by_cases c35 : (a0.size : Int) ≥ 1
    ·rw [if_pos c35] at H
     have c35b0 : decide (1 ≤ (a0.size : Int)) = true := Qj c35
     have c35b1 : decide (1 ≤ a0.size) = true := Qj (by omega)
     clear c35
     obtain rfl := Qn H
     go_wp2
     go_ret
     exact ⟨by first|rfl|(simp; done)|(simp [*]; done), by repeat (first|exact Drawn0.refl _|apply Drawn0.step)⟩
    ·rw [if_neg c35] at H
     have c35b0 : decide (1 ≤ (a0.size : Int)) = false := decide_eq_false c35
     have c35b1 : decide (1 ≤ a0.size) = false := decide_eq_false (by omega)
     clear c35
     obtain rfl := Qn H
     go_wp2
     go_ret
     exact ⟨by first|rfl|(simp; done)|(simp [*]; done), by repeat (first|exact Drawn0.refl _|apply Drawn0.step)⟩

end Go.Proofs.YtbelnkdbghggmaaGreatDoor.X
namespace Go.Proofs.YtbelnkdbghggmaaGreatDoor.X
open Go.RowKit Go.Proofs.YtbelnkdbghggmaaGreatDoorW.PrintWords Go.Proofs.YtbelnkdbghggmaaGreatDoorW.PrintLast

set_option linter.unusedVariables false
set_option linter.unusedSimpArgs false

attribute [local go_sem high] eqA38
/-! ### curtilageref10_goes: function 47 -/
def curtilageref10_goes.f (a0 : Int) : Option (Bool) := if a0 = 18 then (some true) else (if a0 = 19 then (some true) else (if a0 = 20 then (some true) else (some (a0 == 21))))
set_option maxHeartbeats 8000000 in
set_option maxRecDepth 100000 in
theorem curtilageref10_goes.calls (a0 : Int) (r : Bool) (w : World) (h : curtilageref10_goes.f a0 = some r) :
  Calls Tryz.prog 47 #[.int .i64 a0] w fun e w' => e = .returned (.bool r) ∧ Drawn0 w w' := by
 have H : (if a0 = 18 then (some true) else (if a0 = 19 then (some true) else (if a0 = 20 then (some true) else (some (a0 == 21))))) = some r := h
 clear h
 by_cases c2 : a0 = 18
 ·rw [if_pos c2] at H
  have c2b0 : (a0 == 18) = true := Qm c2
  have c2b1 : (a0 != 18) = false := Qh c2
  clear c2
  obtain rfl := Qn H
  go_enter Tryz.func47, Tryz.ntmps47
  go_wp2
  go_ret
  exact ⟨by first|rfl|(simp; done)|(simp [*]; done), by repeat (first|exact Drawn0.refl _|apply Drawn0.step)⟩
 ·rw [if_neg c2] at H
  have c2b0 : (a0 == 18) = false := Qk c2
  have c2b1 : (a0 != 18) = true := Ql c2
  by_cases c3 : a0 = 19
  ·rw [if_pos c3] at H
   have c3b0 : (a0 == 19) = true := Qm c3
   have c3b1 : (a0 != 19) = false := Qh c3
   clear c3
   obtain rfl := Qn H
   go_enter Tryz.func47, Tryz.ntmps47
   go_wp2
   go_ret
   exact ⟨by first|rfl|(simp; done)|(simp [*]; done), by repeat (first|exact Drawn0.refl _|apply Drawn0.step)⟩
  ·rw [if_neg c3] at H
   have c3b0 : (a0 == 19) = false := Qk c3
   have c3b1 : (a0 != 19) = true := Ql c3
   by_cases c4 : a0 = 20
   ·rw [if_pos c4] at H
    have c4b0 : (a0 == 20) = true := Qm c4
    have c4b1 : (a0 != 20) = false := Qh c4
    clear c4
    obtain rfl := Qn H
    go_enter Tryz.func47, Tryz.ntmps47
    go_wp2
    go_ret
    exact ⟨by first|rfl|(simp; done)|(simp [*]; done), by repeat (first|exact Drawn0.refl _|apply Drawn0.step)⟩
   ·rw [if_neg c4] at H
    have c4b0 : (a0 == 20) = false := Qk c4
    have c4b1 : (a0 != 20) = true := Ql c4
    obtain rfl := Qn H
    go_enter Tryz.func47, Tryz.ntmps47
    go_wp2
    go_ret
    exact ⟨by first|rfl|(simp; done)|(simp [*]; done), by repeat (first|exact Drawn0.refl _|apply Drawn0.step)⟩

/-! ### curtilageref10_good: function 21 -/
def curtilageref10_good.f (k : Nat) (a0_0 : ByteArray) (a0_1 : Int) (a0_2 : Int) (a0_3 : Int) (a0_4 : Int) (a0_5 : Int) (a0_6 : ByteArray) : Option (Bool) := if a0_0.toList = ([] : List UInt8) then ((curtilageref08_Fit.f k a0_1 a0_2 a0_3 a0_4 a0_5).bind fun t151 => (if t151 = true then (if a0_6.toList = ([] : List UInt8) then (some true) else ((curtilageref10_word.f k a0_6).bind fun t152 => (if t152 = true then ((curtilageref10_goes.f a0_1).bind fun t153 => (if t153 = true then (if a0_5 = 0 then (some true) else (some (a0_1 == 1))) else (some (a0_1 == 1)))) else (some false)))) else (some false))) else ((curtilageref10_word.f k a0_0).bind fun t150 => (if t150 = true then (if a0_6.toList = ([] : List UInt8) then (some (a0_1 == 0 && (a0_2 == 0 && (a0_3 == 0 && (a0_4 == 0 && (a0_5 == 0)))))) else (some false)) else (some false)))
set_option maxHeartbeats 8000000 in
set_option maxRecDepth 100000 in
theorem curtilageref10_good.calls (k : Nat) (a0_0 : ByteArray) (a0_1 : Int) (a0_2 : Int) (a0_3 : Int) (a0_4 : Int) (a0_5 : Int) (a0_6 : ByteArray) (r : Bool) (w : World) (h : curtilageref10_good.f k a0_0 a0_1 a0_2 a0_3 a0_4 a0_5 a0_6 = some r) :
  Calls Tryz.prog 21 #[.agg #[.string a0_0, .int .i64 a0_1, .int .i64 a0_2, .int .i64 a0_3, .int .i64 a0_4, .int .i32 a0_5, .string a0_6]] w fun e w' => e = .returned (.bool r) ∧ Below w.heap.size w w' := by
 have hu40 := Tryz.underlying40
 have hu38 := Tryz.underlying38
 have HB := Q4 (Below.refl w.heap.size w)
 have H := h
 unfold curtilageref10_good.f at H
 clear h
 by_cases c2 : a0_0.toList = ([] : List UInt8)
 ·rw [if_pos c2] at H
  have c2b0 : (a0_0.toList == ([] : List UInt8)) = true := Qm c2
  have c2b1 : (a0_0.toList != ([] : List UInt8)) = false := Qh c2
  clear c2
  replace H := Qi H
  obtain ⟨t151, A30, H⟩ := H
  try dsimp only at H
  have A3 := Q4 A30
  clear A30
  by_cases c4 : t151 = true
  ·subst c4
   rw [if_pos rfl] at H
   by_cases c5 : a0_6.toList = ([] : List UInt8)
   ·rw [if_pos c5] at H
    have c5b0 : (a0_6.toList == ([] : List UInt8)) = true := Qm c5
    have c5b1 : (a0_6.toList != ([] : List UInt8)) = false := Qh c5
    clear c5
    obtain rfl := Qn H
    go_enter Tryz.func21, Tryz.ntmps21
    go_wp2_with (first|((with_reducible refine gate_dst (N := 1) rfl ?_); refine box_event ?hg (N := 1) ?hd (cs := #[.string a0_0, .int .i64 a0_1, .int .i64 a0_2, .int .i64 a0_3, .int .i64 a0_4, .int .i32 a0_5, .string a0_6]) (t := 40) ?hr ?_; (case hd => rfl); (case hg => rfl); (case hr => first|(go_simp; done)|(go_simp; rfl)); intro gb149 hg w6 hbox hb; have n0_ := Q4 (Qg (by repeat (first|(with_reducible first|exact HB.out|apply Q8|apply Q5|apply Q9)|exact HB.out)) hb); have n1_ := Q4 (hbox); have n2_ := Q4 ((by rw [hg]; exact bZ : w.heap.size ≤ gb149)); have n3_ := Q4 ((by rw [hg]; exact bZ : w.heap.size ≤ gb149)); clear HB; have HB := n0_; have BK149 := n1_; have GW149 := n2_; have GE149 := n3_; clear n0_ n1_ n2_ n3_; clear hb hbox hg; have hcz7_0 : w6.cell? ⟨gb149, 0, none⟩ = some (.string a0_0) := (Qe BK149.out 0).trans rfl; have hcz7_1 : w6.cell? ⟨gb149, 1, none⟩ = some (.int .i64 a0_1) := (Qe BK149.out 1).trans rfl; have hcz7_2 : w6.cell? ⟨gb149, 2, none⟩ = some (.int .i64 a0_2) := (Qe BK149.out 2).trans rfl; have hcz7_3 : w6.cell? ⟨gb149, 3, none⟩ = some (.int .i64 a0_3) := (Qe BK149.out 3).trans rfl; have hcz7_4 : w6.cell? ⟨gb149, 4, none⟩ = some (.int .i64 a0_4) := (Qe BK149.out 4).trans rfl; have hcz7_5 : w6.cell? ⟨gb149, 5, none⟩ = some (.int .i32 a0_5) := (Qe BK149.out 5).trans rfl; have hcz7_6 : w6.cell? ⟨gb149, 6, none⟩ = some (.string a0_6) := (Qe BK149.out 6).trans rfl; have hfz7_0 := Qd BK149.out 0; have hfz7_1 := Qd BK149.out 1; have hfz7_2 := Qd BK149.out 2; have hfz7_3 := Qd BK149.out 3; have hfz7_4 := Qd BK149.out 4; have hfz7_5 := Qd BK149.out 5; have hfz7_6 := Qd BK149.out 6)|((with_reducible refine gate_callee (f := 46) rfl ?_); refine gL (some 22) Tryz.func46 #[.agg #[.int .i64 a0_1, .int .i64 a0_2, .int .i64 a0_3, .int .i64 a0_4, .int .i32 a0_5]] ?_; (with_reducible refine (curtilageref08_Fit.calls k a0_1 a0_2 a0_3 a0_4 a0_5 true _ A3.out).mono ?_); rintro e w8 ⟨rfl, hb⟩; refine ⟨_, rfl, ?_⟩; have n0_ := Q4 (Qo (g := gb149) (o := .cells #[.string a0_0, .int .i64 a0_1, .int .i64 a0_2, .int .i64 a0_3, .int .i64 a0_4, .int .i32 a0_5, .string a0_6] 40 (0, 0)) (bK BK149) hb); have n1_ := Q4 (Qg (by repeat (first|(with_reducible first|exact HB.out|apply Q8|apply Q5|apply Q9|refine Q6 ?_ GE149.out)|exact HB.out)) hb); clear BK149; clear HB; have BK149 := n0_; have HB := n1_; clear n0_ n1_;(try clear hb);(try clear hb2);(try clear hk);(try clear hi); have hcz9_0 : w8.cell? ⟨gb149, 0, none⟩ = some (.string a0_0) := (Qe BK149.out 0).trans rfl; have hcz9_1 : w8.cell? ⟨gb149, 1, none⟩ = some (.int .i64 a0_1) := (Qe BK149.out 1).trans rfl; have hcz9_2 : w8.cell? ⟨gb149, 2, none⟩ = some (.int .i64 a0_2) := (Qe BK149.out 2).trans rfl; have hcz9_3 : w8.cell? ⟨gb149, 3, none⟩ = some (.int .i64 a0_3) := (Qe BK149.out 3).trans rfl; have hcz9_4 : w8.cell? ⟨gb149, 4, none⟩ = some (.int .i64 a0_4) := (Qe BK149.out 4).trans rfl; have hcz9_5 : w8.cell? ⟨gb149, 5, none⟩ = some (.int .i32 a0_5) := (Qe BK149.out 5).trans rfl; have hcz9_6 : w8.cell? ⟨gb149, 6, none⟩ = some (.string a0_6) := (Qe BK149.out 6).trans rfl; have hfz9_0 := Qd BK149.out 0; have hfz9_1 := Qd BK149.out 1; have hfz9_2 := Qd BK149.out 2; have hfz9_3 := Qd BK149.out 3; have hfz9_4 := Qd BK149.out 4; have hfz9_5 := Qd BK149.out 5; have hfz9_6 := Qd BK149.out 6))
    go_ret
    exact ⟨by first|rfl|(simp [errW_none, errW_some] <;> rfl)|(simp [*, errW_none, errW_some] <;> rfl), by repeat (first|(with_reducible first|exact HB.out|apply Q8|apply Q5|apply Q9|refine Q6 ?_ GE149.out)|exact HB.out)⟩
   ·rw [if_neg c5] at H
    have c5b0 : (a0_6.toList == ([] : List UInt8)) = false := Qk c5
    have c5b1 : (a0_6.toList != ([] : List UInt8)) = true := Ql c5
    replace H := Qi H
    obtain ⟨t152, A100, H⟩ := H
    try dsimp only at H
    have A10 := Q4 A100
    clear A100
    by_cases c11 : t152 = true
    ·subst c11
     rw [if_pos rfl] at H
     replace H := Qi H
     obtain ⟨t153, A120, H⟩ := H
     try dsimp only at H
     have A12 := Q4 A120
     clear A120
     by_cases c13 : t153 = true
     ·subst c13
      rw [if_pos rfl] at H
      by_cases c14 : a0_5 = 0
      ·rw [if_pos c14] at H
       have c14b0 : (a0_5 == 0) = true := Qm c14
       have c14b1 : (a0_5 != 0) = false := Qh c14
       clear c14
       obtain rfl := Qn H
       go_enter Tryz.func21, Tryz.ntmps21
       go_wp2_with (first|((with_reducible refine gate_dst (N := 1) rfl ?_); refine box_event ?hg (N := 1) ?hd (cs := #[.string a0_0, .int .i64 a0_1, .int .i64 a0_2, .int .i64 a0_3, .int .i64 a0_4, .int .i32 a0_5, .string a0_6]) (t := 40) ?hr ?_; (case hd => rfl); (case hg => rfl); (case hr => first|(go_simp; done)|(go_simp; rfl)); intro gb149 hg w15 hbox hb; have n0_ := Q4 (Qg (by repeat (first|(with_reducible first|exact HB.out|apply Q8|apply Q5|apply Q9)|exact HB.out)) hb); have n1_ := Q4 (hbox); have n2_ := Q4 ((by rw [hg]; exact bZ : w.heap.size ≤ gb149)); have n3_ := Q4 ((by rw [hg]; exact bZ : w.heap.size ≤ gb149)); clear HB; have HB := n0_; have BK149 := n1_; have GW149 := n2_; have GE149 := n3_; clear n0_ n1_ n2_ n3_; clear hb hbox hg; have hcz16_0 : w15.cell? ⟨gb149, 0, none⟩ = some (.string a0_0) := (Qe BK149.out 0).trans rfl; have hcz16_1 : w15.cell? ⟨gb149, 1, none⟩ = some (.int .i64 a0_1) := (Qe BK149.out 1).trans rfl; have hcz16_2 : w15.cell? ⟨gb149, 2, none⟩ = some (.int .i64 a0_2) := (Qe BK149.out 2).trans rfl; have hcz16_3 : w15.cell? ⟨gb149, 3, none⟩ = some (.int .i64 a0_3) := (Qe BK149.out 3).trans rfl; have hcz16_4 : w15.cell? ⟨gb149, 4, none⟩ = some (.int .i64 a0_4) := (Qe BK149.out 4).trans rfl; have hcz16_5 : w15.cell? ⟨gb149, 5, none⟩ = some (.int .i32 a0_5) := (Qe BK149.out 5).trans rfl; have hcz16_6 : w15.cell? ⟨gb149, 6, none⟩ = some (.string a0_6) := (Qe BK149.out 6).trans rfl; have hfz16_0 := Qd BK149.out 0; have hfz16_1 := Qd BK149.out 1; have hfz16_2 := Qd BK149.out 2; have hfz16_3 := Qd BK149.out 3; have hfz16_4 := Qd BK149.out 4; have hfz16_5 := Qd BK149.out 5; have hfz16_6 := Qd BK149.out 6)|((with_reducible refine gate_callee (f := 46) rfl ?_); refine gL (some 22) Tryz.func46 #[.agg #[.int .i64 a0_1, .int .i64 a0_2, .int .i64 a0_3, .int .i64 a0_4, .int .i32 a0_5]] ?_; (with_reducible refine (curtilageref08_Fit.calls k a0_1 a0_2 a0_3 a0_4 a0_5 true _ A3.out).mono ?_); rintro e w17 ⟨rfl, hb⟩; refine ⟨_, rfl, ?_⟩; have n0_ := Q4 (Qo (g := gb149) (o := .cells #[.string a0_0, .int .i64 a0_1, .int .i64 a0_2, .int .i64 a0_3, .int .i64 a0_4, .int .i32 a0_5, .string a0_6] 40 (0, 0)) (bK BK149) hb); have n1_ := Q4 (Qg (by repeat (first|(with_reducible first|exact HB.out|apply Q8|apply Q5|apply Q9|refine Q6 ?_ GE149.out)|exact HB.out)) hb); clear BK149; clear HB; have BK149 := n0_; have HB := n1_; clear n0_ n1_;(try clear hb);(try clear hb2);(try clear hk);(try clear hi); have hcz18_0 : w17.cell? ⟨gb149, 0, none⟩ = some (.string a0_0) := (Qe BK149.out 0).trans rfl; have hcz18_1 : w17.cell? ⟨gb149, 1, none⟩ = some (.int .i64 a0_1) := (Qe BK149.out 1).trans rfl; have hcz18_2 : w17.cell? ⟨gb149, 2, none⟩ = some (.int .i64 a0_2) := (Qe BK149.out 2).trans rfl; have hcz18_3 : w17.cell? ⟨gb149, 3, none⟩ = some (.int .i64 a0_3) := (Qe BK149.out 3).trans rfl; have hcz18_4 : w17.cell? ⟨gb149, 4, none⟩ = some (.int .i64 a0_4) := (Qe BK149.out 4).trans rfl; have hcz18_5 : w17.cell? ⟨gb149, 5, none⟩ = some (.int .i32 a0_5) := (Qe BK149.out 5).trans rfl; have hcz18_6 : w17.cell? ⟨gb149, 6, none⟩ = some (.string a0_6) := (Qe BK149.out 6).trans rfl; have hfz18_0 := Qd BK149.out 0; have hfz18_1 := Qd BK149.out 1; have hfz18_2 := Qd BK149.out 2; have hfz18_3 := Qd BK149.out 3; have hfz18_4 := Qd BK149.out 4; have hfz18_5 := Qd BK149.out 5; have hfz18_6 := Qd BK149.out 6)|((with_reducible refine gate_callee (f := 45) rfl ?_); refine gL (some 29) Tryz.func45 #[.string a0_6] ?_; (with_reducible refine (curtilageref10_word.calls k a0_6 true _ A10.out).mono ?_); rintro e w' ⟨rfl, ⟨nd, rfl⟩⟩; refine ⟨_, rfl, ?_⟩)|(go_at_call 47; (with_reducible refine (curtilageref10_goes.calls a0_1 true _ A12.out).mono ?_); rintro e w' ⟨rfl, ⟨nd, rfl⟩⟩))
       go_ret
       exact ⟨by first|rfl|(simp [errW_none, errW_some] <;> rfl)|(simp [*, errW_none, errW_some] <;> rfl), by repeat (first|(with_reducible first|exact HB.out|apply Q8|apply Q5|apply Q9|refine Q6 ?_ GE149.out)|exact HB.out)⟩
      ·rw [if_neg c14] at H
       have c14b0 : (a0_5 == 0) = false := Qk c14
       have c14b1 : (a0_5 != 0) = true := Ql c14
       obtain rfl := Qn H
       go_enter Tryz.func21, Tryz.ntmps21
       go_wp2_with (first|((with_reducible refine gate_dst (N := 1) rfl ?_); refine box_event ?hg (N := 1) ?hd (cs := #[.string a0_0, .int .i64 a0_1, .int .i64 a0_2, .int .i64 a0_3, .int .i64 a0_4, .int .i32 a0_5, .string a0_6]) (t := 40) ?hr ?_; (case hd => rfl); (case hg => rfl); (case hr => first|(go_simp; done)|(go_simp; rfl)); intro gb149 hg w19 hbox hb; have n0_ := Q4 (Qg (by repeat (first|(with_reducible first|exact HB.out|apply Q8|apply Q5|apply Q9)|exact HB.out)) hb); have n1_ := Q4 (hbox); have n2_ := Q4 ((by rw [hg]; exact bZ : w.heap.size ≤ gb149)); have n3_ := Q4 ((by rw [hg]; exact bZ : w.heap.size ≤ gb149)); clear HB; have HB := n0_; have BK149 := n1_; have GW149 := n2_; have GE149 := n3_; clear n0_ n1_ n2_ n3_; clear hb hbox hg; have hcz20_0 : w19.cell? ⟨gb149, 0, none⟩ = some (.string a0_0) := (Qe BK149.out 0).trans rfl; have hcz20_1 : w19.cell? ⟨gb149, 1, none⟩ = some (.int .i64 a0_1) := (Qe BK149.out 1).trans rfl; have hcz20_2 : w19.cell? ⟨gb149, 2, none⟩ = some (.int .i64 a0_2) := (Qe BK149.out 2).trans rfl; have hcz20_3 : w19.cell? ⟨gb149, 3, none⟩ = some (.int .i64 a0_3) := (Qe BK149.out 3).trans rfl; have hcz20_4 : w19.cell? ⟨gb149, 4, none⟩ = some (.int .i64 a0_4) := (Qe BK149.out 4).trans rfl; have hcz20_5 : w19.cell? ⟨gb149, 5, none⟩ = some (.int .i32 a0_5) := (Qe BK149.out 5).trans rfl; have hcz20_6 : w19.cell? ⟨gb149, 6, none⟩ = some (.string a0_6) := (Qe BK149.out 6).trans rfl; have hfz20_0 := Qd BK149.out 0; have hfz20_1 := Qd BK149.out 1; have hfz20_2 := Qd BK149.out 2; have hfz20_3 := Qd BK149.out 3; have hfz20_4 := Qd BK149.out 4; have hfz20_5 := Qd BK149.out 5; have hfz20_6 := Qd BK149.out 6)|((with_reducible refine gate_callee (f := 46) rfl ?_); refine gL (some 22) Tryz.func46 #[.agg #[.int .i64 a0_1, .int .i64 a0_2, .int .i64 a0_3, .int .i64 a0_4, .int .i32 a0_5]] ?_; (with_reducible refine (curtilageref08_Fit.calls k a0_1 a0_2 a0_3 a0_4 a0_5 true _ A3.out).mono ?_); rintro e w21 ⟨rfl, hb⟩; refine ⟨_, rfl, ?_⟩; have n0_ := Q4 (Qo (g := gb149) (o := .cells #[.string a0_0, .int .i64 a0_1, .int .i64 a0_2, .int .i64 a0_3, .int .i64 a0_4, .int .i32 a0_5, .string a0_6] 40 (0, 0)) (bK BK149) hb); have n1_ := Q4 (Qg (by repeat (first|(with_reducible first|exact HB.out|apply Q8|apply Q5|apply Q9|refine Q6 ?_ GE149.out)|exact HB.out)) hb); clear BK149; clear HB; have BK149 := n0_; have HB := n1_; clear n0_ n1_;(try clear hb);(try clear hb2);(try clear hk);(try clear hi); have hcz22_0 : w21.cell? ⟨gb149, 0, none⟩ = some (.string a0_0) := (Qe BK149.out 0).trans rfl; have hcz22_1 : w21.cell? ⟨gb149, 1, none⟩ = some (.int .i64 a0_1) := (Qe BK149.out 1).trans rfl; have hcz22_2 : w21.cell? ⟨gb149, 2, none⟩ = some (.int .i64 a0_2) := (Qe BK149.out 2).trans rfl; have hcz22_3 : w21.cell? ⟨gb149, 3, none⟩ = some (.int .i64 a0_3) := (Qe BK149.out 3).trans rfl; have hcz22_4 : w21.cell? ⟨gb149, 4, none⟩ = some (.int .i64 a0_4) := (Qe BK149.out 4).trans rfl; have hcz22_5 : w21.cell? ⟨gb149, 5, none⟩ = some (.int .i32 a0_5) := (Qe BK149.out 5).trans rfl; have hcz22_6 : w21.cell? ⟨gb149, 6, none⟩ = some (.string a0_6) := (Qe BK149.out 6).trans rfl; have hfz22_0 := Qd BK149.out 0; have hfz22_1 := Qd BK149.out 1; have hfz22_2 := Qd BK149.out 2; have hfz22_3 := Qd BK149.out 3; have hfz22_4 := Qd BK149.out 4; have hfz22_5 := Qd BK149.out 5; have hfz22_6 := Qd BK149.out 6)|((with_reducible refine gate_callee (f := 45) rfl ?_); refine gL (some 29) Tryz.func45 #[.string a0_6] ?_; (with_reducible refine (curtilageref10_word.calls k a0_6 true _ A10.out).mono ?_); rintro e w' ⟨rfl, ⟨nd, rfl⟩⟩; refine ⟨_, rfl, ?_⟩)|(go_at_call 47; (with_reducible refine (curtilageref10_goes.calls a0_1 true _ A12.out).mono ?_); rintro e w' ⟨rfl, ⟨nd, rfl⟩⟩))
       go_ret
       exact ⟨by first|rfl|(simp [errW_none, errW_some] <;> rfl)|(simp [*, errW_none, errW_some] <;> rfl), by repeat (first|(with_reducible first|exact HB.out|apply Q8|apply Q5|apply Q9|refine Q6 ?_ GE149.out)|exact HB.out)⟩
     ·replace c13 := Bool.eq_false_iff.mpr c13
      subst c13
      rw [if_neg (show ¬ (false = true) by decide)] at H
      obtain rfl := Qn H
      go_enter Tryz.func21, Tryz.ntmps21
      go_wp2_with (first|((with_reducible refine gate_dst (N := 1) rfl ?_); refine box_event ?hg (N := 1) ?hd (cs := #[.string a0_0, .int .i64 a0_1, .int .i64 a0_2, .int .i64 a0_3, .int .i64 a0_4, .int .i32 a0_5, .string a0_6]) (t := 40) ?hr ?_; (case hd => rfl); (case hg => rfl); (case hr => first|(go_simp; done)|(go_simp; rfl)); intro gb149 hg w23 hbox hb; have n0_ := Q4 (Qg (by repeat (first|(with_reducible first|exact HB.out|apply Q8|apply Q5|apply Q9)|exact HB.out)) hb); have n1_ := Q4 (hbox); have n2_ := Q4 ((by rw [hg]; exact bZ : w.heap.size ≤ gb149)); have n3_ := Q4 ((by rw [hg]; exact bZ : w.heap.size ≤ gb149)); clear HB; have HB := n0_; have BK149 := n1_; have GW149 := n2_; have GE149 := n3_; clear n0_ n1_ n2_ n3_; clear hb hbox hg; have hcz24_0 : w23.cell? ⟨gb149, 0, none⟩ = some (.string a0_0) := (Qe BK149.out 0).trans rfl; have hcz24_1 : w23.cell? ⟨gb149, 1, none⟩ = some (.int .i64 a0_1) := (Qe BK149.out 1).trans rfl; have hcz24_2 : w23.cell? ⟨gb149, 2, none⟩ = some (.int .i64 a0_2) := (Qe BK149.out 2).trans rfl; have hcz24_3 : w23.cell? ⟨gb149, 3, none⟩ = some (.int .i64 a0_3) := (Qe BK149.out 3).trans rfl; have hcz24_4 : w23.cell? ⟨gb149, 4, none⟩ = some (.int .i64 a0_4) := (Qe BK149.out 4).trans rfl; have hcz24_5 : w23.cell? ⟨gb149, 5, none⟩ = some (.int .i32 a0_5) := (Qe BK149.out 5).trans rfl; have hcz24_6 : w23.cell? ⟨gb149, 6, none⟩ = some (.string a0_6) := (Qe BK149.out 6).trans rfl; have hfz24_0 := Qd BK149.out 0; have hfz24_1 := Qd BK149.out 1; have hfz24_2 := Qd BK149.out 2; have hfz24_3 := Qd BK149.out 3; have hfz24_4 := Qd BK149.out 4; have hfz24_5 := Qd BK149.out 5; have hfz24_6 := Qd BK149.out 6)|((with_reducible refine gate_callee (f := 46) rfl ?_); refine gL (some 22) Tryz.func46 #[.agg #[.int .i64 a0_1, .int .i64 a0_2, .int .i64 a0_3, .int .i64 a0_4, .int .i32 a0_5]] ?_; (with_reducible refine (curtilageref08_Fit.calls k a0_1 a0_2 a0_3 a0_4 a0_5 true _ A3.out).mono ?_); rintro e w25 ⟨rfl, hb⟩; refine ⟨_, rfl, ?_⟩; have n0_ := Q4 (Qo (g := gb149) (o := .cells #[.string a0_0, .int .i64 a0_1, .int .i64 a0_2, .int .i64 a0_3, .int .i64 a0_4, .int .i32 a0_5, .string a0_6] 40 (0, 0)) (bK BK149) hb); have n1_ := Q4 (Qg (by repeat (first|(with_reducible first|exact HB.out|apply Q8|apply Q5|apply Q9|refine Q6 ?_ GE149.out)|exact HB.out)) hb); clear BK149; clear HB; have BK149 := n0_; have HB := n1_; clear n0_ n1_;(try clear hb);(try clear hb2);(try clear hk);(try clear hi); have hcz26_0 : w25.cell? ⟨gb149, 0, none⟩ = some (.string a0_0) := (Qe BK149.out 0).trans rfl; have hcz26_1 : w25.cell? ⟨gb149, 1, none⟩ = some (.int .i64 a0_1) := (Qe BK149.out 1).trans rfl; have hcz26_2 : w25.cell? ⟨gb149, 2, none⟩ = some (.int .i64 a0_2) := (Qe BK149.out 2).trans rfl; have hcz26_3 : w25.cell? ⟨gb149, 3, none⟩ = some (.int .i64 a0_3) := (Qe BK149.out 3).trans rfl; have hcz26_4 : w25.cell? ⟨gb149, 4, none⟩ = some (.int .i64 a0_4) := (Qe BK149.out 4).trans rfl; have hcz26_5 : w25.cell? ⟨gb149, 5, none⟩ = some (.int .i32 a0_5) := (Qe BK149.out 5).trans rfl; have hcz26_6 : w25.cell? ⟨gb149, 6, none⟩ = some (.string a0_6) := (Qe BK149.out 6).trans rfl; have hfz26_0 := Qd BK149.out 0; have hfz26_1 := Qd BK149.out 1; have hfz26_2 := Qd BK149.out 2; have hfz26_3 := Qd BK149.out 3; have hfz26_4 := Qd BK149.out 4; have hfz26_5 := Qd BK149.out 5; have hfz26_6 := Qd BK149.out 6)|((with_reducible refine gate_callee (f := 45) rfl ?_); refine gL (some 29) Tryz.func45 #[.string a0_6] ?_; (with_reducible refine (curtilageref10_word.calls k a0_6 true _ A10.out).mono ?_); rintro e w' ⟨rfl, ⟨nd, rfl⟩⟩; refine ⟨_, rfl, ?_⟩)|(go_at_call 47; (with_reducible refine (curtilageref10_goes.calls a0_1 false _ A12.out).mono ?_); rintro e w' ⟨rfl, ⟨nd, rfl⟩⟩))
      go_ret
      exact ⟨by first|rfl|(simp [errW_none, errW_some] <;> rfl)|(simp [*, errW_none, errW_some] <;> rfl), by repeat (first|(with_reducible first|exact HB.out|apply Q8|apply Q5|apply Q9|refine Q6 ?_ GE149.out)|exact HB.out)⟩
    ·replace c11 := Bool.eq_false_iff.mpr c11
     subst c11
     rw [if_neg (show ¬ (false = true) by decide)] at H
     obtain rfl := Qn H
     go_enter Tryz.func21, Tryz.ntmps21
     go_wp2_with (first|((with_reducible refine gate_dst (N := 1) rfl ?_); refine box_event ?hg (N := 1) ?hd (cs := #[.string a0_0, .int .i64 a0_1, .int .i64 a0_2, .int .i64 a0_3, .int .i64 a0_4, .int .i32 a0_5, .string a0_6]) (t := 40) ?hr ?_; (case hd => rfl); (case hg => rfl); (case hr => first|(go_simp; done)|(go_simp; rfl)); intro gb149 hg w27 hbox hb; have n0_ := Q4 (Qg (by repeat (first|(with_reducible first|exact HB.out|apply Q8|apply Q5|apply Q9)|exact HB.out)) hb); have n1_ := Q4 (hbox); have n2_ := Q4 ((by rw [hg]; exact bZ : w.heap.size ≤ gb149)); have n3_ := Q4 ((by rw [hg]; exact bZ : w.heap.size ≤ gb149)); clear HB; have HB := n0_; have BK149 := n1_; have GW149 := n2_; have GE149 := n3_; clear n0_ n1_ n2_ n3_; clear hb hbox hg; have hcz28_0 : w27.cell? ⟨gb149, 0, none⟩ = some (.string a0_0) := (Qe BK149.out 0).trans rfl; have hcz28_1 : w27.cell? ⟨gb149, 1, none⟩ = some (.int .i64 a0_1) := (Qe BK149.out 1).trans rfl; have hcz28_2 : w27.cell? ⟨gb149, 2, none⟩ = some (.int .i64 a0_2) := (Qe BK149.out 2).trans rfl; have hcz28_3 : w27.cell? ⟨gb149, 3, none⟩ = some (.int .i64 a0_3) := (Qe BK149.out 3).trans rfl; have hcz28_4 : w27.cell? ⟨gb149, 4, none⟩ = some (.int .i64 a0_4) := (Qe BK149.out 4).trans rfl; have hcz28_5 : w27.cell? ⟨gb149, 5, none⟩ = some (.int .i32 a0_5) := (Qe BK149.out 5).trans rfl; have hcz28_6 : w27.cell? ⟨gb149, 6, none⟩ = some (.string a0_6) := (Qe BK149.out 6).trans rfl; have hfz28_0 := Qd BK149.out 0; have hfz28_1 := Qd BK149.out 1; have hfz28_2 := Qd BK149.out 2; have hfz28_3 := Qd BK149.out 3; have hfz28_4 := Qd BK149.out 4; have hfz28_5 := Qd BK149.out 5; have hfz28_6 := Qd BK149.out 6)|((with_reducible refine gate_callee (f := 46) rfl ?_); refine gL (some 22) Tryz.func46 #[.agg #[.int .i64 a0_1, .int .i64 a0_2, .int .i64 a0_3, .int .i64 a0_4, .int .i32 a0_5]] ?_; (with_reducible refine (curtilageref08_Fit.calls k a0_1 a0_2 a0_3 a0_4 a0_5 true _ A3.out).mono ?_); rintro e w29 ⟨rfl, hb⟩; refine ⟨_, rfl, ?_⟩; have n0_ := Q4 (Qo (g := gb149) (o := .cells #[.string a0_0, .int .i64 a0_1, .int .i64 a0_2, .int .i64 a0_3, .int .i64 a0_4, .int .i32 a0_5, .string a0_6] 40 (0, 0)) (bK BK149) hb); have n1_ := Q4 (Qg (by repeat (first|(with_reducible first|exact HB.out|apply Q8|apply Q5|apply Q9|refine Q6 ?_ GE149.out)|exact HB.out)) hb); clear BK149; clear HB; have BK149 := n0_; have HB := n1_; clear n0_ n1_;(try clear hb);(try clear hb2);(try clear hk);(try clear hi); have hcz30_0 : w29.cell? ⟨gb149, 0, none⟩ = some (.string a0_0) := (Qe BK149.out 0).trans rfl; have hcz30_1 : w29.cell? ⟨gb149, 1, none⟩ = some (.int .i64 a0_1) := (Qe BK149.out 1).trans rfl; have hcz30_2 : w29.cell? ⟨gb149, 2, none⟩ = some (.int .i64 a0_2) := (Qe BK149.out 2).trans rfl; have hcz30_3 : w29.cell? ⟨gb149, 3, none⟩ = some (.int .i64 a0_3) := (Qe BK149.out 3).trans rfl; have hcz30_4 : w29.cell? ⟨gb149, 4, none⟩ = some (.int .i64 a0_4) := (Qe BK149.out 4).trans rfl; have hcz30_5 : w29.cell? ⟨gb149, 5, none⟩ = some (.int .i32 a0_5) := (Qe BK149.out 5).trans rfl; have hcz30_6 : w29.cell? ⟨gb149, 6, none⟩ = some (.string a0_6) := (Qe BK149.out 6).trans rfl; have hfz30_0 := Qd BK149.out 0; have hfz30_1 := Qd BK149.out 1; have hfz30_2 := Qd BK149.out 2; have hfz30_3 := Qd BK149.out 3; have hfz30_4 := Qd BK149.out 4; have hfz30_5 := Qd BK149.out 5; have hfz30_6 := Qd BK149.out 6)|((with_reducible refine gate_callee (f := 45) rfl ?_); refine gL (some 29) Tryz.func45 #[.string a0_6] ?_; (with_reducible refine (curtilageref10_word.calls k a0_6 false _ A10.out).mono ?_); rintro e w' ⟨rfl, ⟨nd, rfl⟩⟩; refine ⟨_, rfl, ?_⟩))
     go_ret
     exact ⟨by first|rfl|(simp [errW_none, errW_some] <;> rfl)|(simp [*, errW_none, errW_some] <;> rfl), by repeat (first|(with_reducible first|exact HB.out|apply Q8|apply Q5|apply Q9|refine Q6 ?_ GE149.out)|exact HB.out)⟩
  ·replace c4 := Bool.eq_false_iff.mpr c4
   subst c4
   rw [if_neg (show ¬ (false = true) by decide)] at H
   obtain rfl := Qn H
   go_enter Tryz.func21, Tryz.ntmps21
   go_wp2_with (first|((with_reducible refine gate_dst (N := 1) rfl ?_); refine box_event ?hg (N := 1) ?hd (cs := #[.string a0_0, .int .i64 a0_1, .int .i64 a0_2, .int .i64 a0_3, .int .i64 a0_4, .int .i32 a0_5, .string a0_6]) (t := 40) ?hr ?_; (case hd => rfl); (case hg => rfl); (case hr => first|(go_simp; done)|(go_simp; rfl)); intro gb149 hg w31 hbox hb; have n0_ := Q4 (Qg (by repeat (first|(with_reducible first|exact HB.out|apply Q8|apply Q5|apply Q9)|exact HB.out)) hb); have n1_ := Q4 (hbox); have n2_ := Q4 ((by rw [hg]; exact bZ : w.heap.size ≤ gb149)); have n3_ := Q4 ((by rw [hg]; exact bZ : w.heap.size ≤ gb149)); clear HB; have HB := n0_; have BK149 := n1_; have GW149 := n2_; have GE149 := n3_; clear n0_ n1_ n2_ n3_; clear hb hbox hg; have hcz32_0 : w31.cell? ⟨gb149, 0, none⟩ = some (.string a0_0) := (Qe BK149.out 0).trans rfl; have hcz32_1 : w31.cell? ⟨gb149, 1, none⟩ = some (.int .i64 a0_1) := (Qe BK149.out 1).trans rfl; have hcz32_2 : w31.cell? ⟨gb149, 2, none⟩ = some (.int .i64 a0_2) := (Qe BK149.out 2).trans rfl; have hcz32_3 : w31.cell? ⟨gb149, 3, none⟩ = some (.int .i64 a0_3) := (Qe BK149.out 3).trans rfl; have hcz32_4 : w31.cell? ⟨gb149, 4, none⟩ = some (.int .i64 a0_4) := (Qe BK149.out 4).trans rfl; have hcz32_5 : w31.cell? ⟨gb149, 5, none⟩ = some (.int .i32 a0_5) := (Qe BK149.out 5).trans rfl; have hcz32_6 : w31.cell? ⟨gb149, 6, none⟩ = some (.string a0_6) := (Qe BK149.out 6).trans rfl; have hfz32_0 := Qd BK149.out 0; have hfz32_1 := Qd BK149.out 1; have hfz32_2 := Qd BK149.out 2; have hfz32_3 := Qd BK149.out 3; have hfz32_4 := Qd BK149.out 4; have hfz32_5 := Qd BK149.out 5; have hfz32_6 := Qd BK149.out 6)|((with_reducible refine gate_callee (f := 46) rfl ?_); refine gL (some 22) Tryz.func46 #[.agg #[.int .i64 a0_1, .int .i64 a0_2, .int .i64 a0_3, .int .i64 a0_4, .int .i32 a0_5]] ?_; (with_reducible refine (curtilageref08_Fit.calls k a0_1 a0_2 a0_3 a0_4 a0_5 false _ A3.out).mono ?_); rintro e w33 ⟨rfl, hb⟩; refine ⟨_, rfl, ?_⟩; have n0_ := Q4 (Qo (g := gb149) (o := .cells #[.string a0_0, .int .i64 a0_1, .int .i64 a0_2, .int .i64 a0_3, .int .i64 a0_4, .int .i32 a0_5, .string a0_6] 40 (0, 0)) (bK BK149) hb); have n1_ := Q4 (Qg (by repeat (first|(with_reducible first|exact HB.out|apply Q8|apply Q5|apply Q9|refine Q6 ?_ GE149.out)|exact HB.out)) hb); clear BK149; clear HB; have BK149 := n0_; have HB := n1_; clear n0_ n1_;(try clear hb);(try clear hb2);(try clear hk);(try clear hi)))
   go_ret
   exact ⟨by first|rfl|(simp [errW_none, errW_some] <;> rfl)|(simp [*, errW_none, errW_some] <;> rfl), by repeat (first|(with_reducible first|exact HB.out|apply Q8|apply Q5|apply Q9|refine Q6 ?_ GE149.out)|exact HB.out)⟩
 ·rw [if_neg c2] at H
  have c2b0 : (a0_0.toList == ([] : List UInt8)) = false := Qk c2
  have c2b1 : (a0_0.toList != ([] : List UInt8)) = true := Ql c2
  replace H := Qi H
  obtain ⟨t150, A340, H⟩ := H
  try dsimp only at H
  have A34 := Q4 A340
  clear A340
  by_cases c35 : t150 = true
  ·subst c35
   rw [if_pos rfl] at H
   by_cases c36 : a0_6.toList = ([] : List UInt8)
   ·rw [if_pos c36] at H
    have c36b0 : (a0_6.toList == ([] : List UInt8)) = true := Qm c36
    have c36b1 : (a0_6.toList != ([] : List UInt8)) = false := Qh c36
    clear c36
    obtain rfl := Qn H
    go_enter Tryz.func21, Tryz.ntmps21
    go_wp2_with (first|((with_reducible refine gate_dst (N := 1) rfl ?_); refine box_event ?hg (N := 1) ?hd (cs := #[.string a0_0, .int .i64 a0_1, .int .i64 a0_2, .int .i64 a0_3, .int .i64 a0_4, .int .i32 a0_5, .string a0_6]) (t := 40) ?hr ?_; (case hd => rfl); (case hg => rfl); (case hr => first|(go_simp; done)|(go_simp; rfl)); intro gb149 hg w37 hbox hb; have n0_ := Q4 (Qg (by repeat (first|(with_reducible first|exact HB.out|apply Q8|apply Q5|apply Q9)|exact HB.out)) hb); have n1_ := Q4 (hbox); have n2_ := Q4 ((by rw [hg]; exact bZ : w.heap.size ≤ gb149)); have n3_ := Q4 ((by rw [hg]; exact bZ : w.heap.size ≤ gb149)); clear HB; have HB := n0_; have BK149 := n1_; have GW149 := n2_; have GE149 := n3_; clear n0_ n1_ n2_ n3_; clear hb hbox hg; have hcz38_0 : w37.cell? ⟨gb149, 0, none⟩ = some (.string a0_0) := (Qe BK149.out 0).trans rfl; have hcz38_1 : w37.cell? ⟨gb149, 1, none⟩ = some (.int .i64 a0_1) := (Qe BK149.out 1).trans rfl; have hcz38_2 : w37.cell? ⟨gb149, 2, none⟩ = some (.int .i64 a0_2) := (Qe BK149.out 2).trans rfl; have hcz38_3 : w37.cell? ⟨gb149, 3, none⟩ = some (.int .i64 a0_3) := (Qe BK149.out 3).trans rfl; have hcz38_4 : w37.cell? ⟨gb149, 4, none⟩ = some (.int .i64 a0_4) := (Qe BK149.out 4).trans rfl; have hcz38_5 : w37.cell? ⟨gb149, 5, none⟩ = some (.int .i32 a0_5) := (Qe BK149.out 5).trans rfl; have hcz38_6 : w37.cell? ⟨gb149, 6, none⟩ = some (.string a0_6) := (Qe BK149.out 6).trans rfl; have hfz38_0 := Qd BK149.out 0; have hfz38_1 := Qd BK149.out 1; have hfz38_2 := Qd BK149.out 2; have hfz38_3 := Qd BK149.out 3; have hfz38_4 := Qd BK149.out 4; have hfz38_5 := Qd BK149.out 5; have hfz38_6 := Qd BK149.out 6)|((with_reducible refine gate_callee (f := 45) rfl ?_); refine gL (some 8) Tryz.func45 #[.string a0_0] ?_; (with_reducible refine (curtilageref10_word.calls k a0_0 true _ A34.out).mono ?_); rintro e w' ⟨rfl, ⟨nd, rfl⟩⟩; refine ⟨_, rfl, ?_⟩))
    go_ret
    exact ⟨by first|rfl|(simp [errW_none, errW_some] <;> rfl)|(simp [*, errW_none, errW_some] <;> rfl), by repeat (first|(with_reducible first|exact HB.out|apply Q8|apply Q5|apply Q9|refine Q6 ?_ GE149.out)|exact HB.out)⟩
   ·rw [if_neg c36] at H
    have c36b0 : (a0_6.toList == ([] : List UInt8)) = false := Qk c36
    have c36b1 : (a0_6.toList != ([] : List UInt8)) = true := Ql c36
    obtain rfl := Qn H
    go_enter Tryz.func21, Tryz.ntmps21
    go_wp2_with (first|((with_reducible refine gate_dst (N := 1) rfl ?_); refine box_event ?hg (N := 1) ?hd (cs := #[.string a0_0, .int .i64 a0_1, .int .i64 a0_2, .int .i64 a0_3, .int .i64 a0_4, .int .i32 a0_5, .string a0_6]) (t := 40) ?hr ?_; (case hd => rfl); (case hg => rfl); (case hr => first|(go_simp; done)|(go_simp; rfl)); intro gb149 hg w39 hbox hb; have n0_ := Q4 (Qg (by repeat (first|(with_reducible first|exact HB.out|apply Q8|apply Q5|apply Q9)|exact HB.out)) hb); have n1_ := Q4 (hbox); have n2_ := Q4 ((by rw [hg]; exact bZ : w.heap.size ≤ gb149)); have n3_ := Q4 ((by rw [hg]; exact bZ : w.heap.size ≤ gb149)); clear HB; have HB := n0_; have BK149 := n1_; have GW149 := n2_; have GE149 := n3_; clear n0_ n1_ n2_ n3_; clear hb hbox hg; have hcz40_0 : w39.cell? ⟨gb149, 0, none⟩ = some (.string a0_0) := (Qe BK149.out 0).trans rfl; have hcz40_1 : w39.cell? ⟨gb149, 1, none⟩ = some (.int .i64 a0_1) := (Qe BK149.out 1).trans rfl; have hcz40_2 : w39.cell? ⟨gb149, 2, none⟩ = some (.int .i64 a0_2) := (Qe BK149.out 2).trans rfl; have hcz40_3 : w39.cell? ⟨gb149, 3, none⟩ = some (.int .i64 a0_3) := (Qe BK149.out 3).trans rfl; have hcz40_4 : w39.cell? ⟨gb149, 4, none⟩ = some (.int .i64 a0_4) := (Qe BK149.out 4).trans rfl; have hcz40_5 : w39.cell? ⟨gb149, 5, none⟩ = some (.int .i32 a0_5) := (Qe BK149.out 5).trans rfl; have hcz40_6 : w39.cell? ⟨gb149, 6, none⟩ = some (.string a0_6) := (Qe BK149.out 6).trans rfl; have hfz40_0 := Qd BK149.out 0; have hfz40_1 := Qd BK149.out 1; have hfz40_2 := Qd BK149.out 2; have hfz40_3 := Qd BK149.out 3; have hfz40_4 := Qd BK149.out 4; have hfz40_5 := Qd BK149.out 5; have hfz40_6 := Qd BK149.out 6)|((with_reducible refine gate_callee (f := 45) rfl ?_); refine gL (some 8) Tryz.func45 #[.string a0_0] ?_; (with_reducible refine (curtilageref10_word.calls k a0_0 true _ A34.out).mono ?_); rintro e w' ⟨rfl, ⟨nd, rfl⟩⟩; refine ⟨_, rfl, ?_⟩))
    go_ret
    exact ⟨by first|rfl|(simp [errW_none, errW_some] <;> rfl)|(simp [*, errW_none, errW_some] <;> rfl), by repeat (first|(with_reducible first|exact HB.out|apply Q8|apply Q5|apply Q9|refine Q6 ?_ GE149.out)|exact HB.out)⟩
  ·replace c35 := Bool.eq_false_iff.mpr c35
   subst c35
   rw [if_neg (show ¬ (false = true) by decide)] at H
   obtain rfl := Qn H
   go_enter Tryz.func21, Tryz.ntmps21
   go_wp2_with (first|((with_reducible refine gate_dst (N := 1) rfl ?_); refine box_event ?hg (N := 1) ?hd (cs := #[.string a0_0, .int .i64 a0_1, .int .i64 a0_2, .int .i64 a0_3, .int .i64 a0_4, .int .i32 a0_5, .string a0_6]) (t := 40) ?hr ?_; (case hd => rfl); (case hg => rfl); (case hr => first|(go_simp; done)|(go_simp; rfl)); intro gb149 hg w41 hbox hb; have n0_ := Q4 (Qg (by repeat (first|(with_reducible first|exact HB.out|apply Q8|apply Q5|apply Q9)|exact HB.out)) hb); have n1_ := Q4 (hbox); have n2_ := Q4 ((by rw [hg]; exact bZ : w.heap.size ≤ gb149)); have n3_ := Q4 ((by rw [hg]; exact bZ : w.heap.size ≤ gb149)); clear HB; have HB := n0_; have BK149 := n1_; have GW149 := n2_; have GE149 := n3_; clear n0_ n1_ n2_ n3_; clear hb hbox hg; have hcz42_0 : w41.cell? ⟨gb149, 0, none⟩ = some (.string a0_0) := (Qe BK149.out 0).trans rfl; have hcz42_1 : w41.cell? ⟨gb149, 1, none⟩ = some (.int .i64 a0_1) := (Qe BK149.out 1).trans rfl; have hcz42_2 : w41.cell? ⟨gb149, 2, none⟩ = some (.int .i64 a0_2) := (Qe BK149.out 2).trans rfl; have hcz42_3 : w41.cell? ⟨gb149, 3, none⟩ = some (.int .i64 a0_3) := (Qe BK149.out 3).trans rfl; have hcz42_4 : w41.cell? ⟨gb149, 4, none⟩ = some (.int .i64 a0_4) := (Qe BK149.out 4).trans rfl; have hcz42_5 : w41.cell? ⟨gb149, 5, none⟩ = some (.int .i32 a0_5) := (Qe BK149.out 5).trans rfl; have hcz42_6 : w41.cell? ⟨gb149, 6, none⟩ = some (.string a0_6) := (Qe BK149.out 6).trans rfl; have hfz42_0 := Qd BK149.out 0; have hfz42_1 := Qd BK149.out 1; have hfz42_2 := Qd BK149.out 2; have hfz42_3 := Qd BK149.out 3; have hfz42_4 := Qd BK149.out 4; have hfz42_5 := Qd BK149.out 5; have hfz42_6 := Qd BK149.out 6)|((with_reducible refine gate_callee (f := 45) rfl ?_); refine gL (some 8) Tryz.func45 #[.string a0_0] ?_; (with_reducible refine (curtilageref10_word.calls k a0_0 false _ A34.out).mono ?_); rintro e w' ⟨rfl, ⟨nd, rfl⟩⟩; refine ⟨_, rfl, ?_⟩))
   go_ret
   exact ⟨by first|rfl|(simp [errW_none, errW_some] <;> rfl)|(simp [*, errW_none, errW_some] <;> rfl), by repeat (first|(with_reducible first|exact HB.out|apply Q8|apply Q5|apply Q9|refine Q6 ?_ GE149.out)|exact HB.out)⟩

/-! ### curtilageref10_words: function 33 -/

/-! ### curtilageref08_name: function 60 -/

/-! ### curtilageref08_Digits: function 62 -/

end Go.Proofs.YtbelnkdbghggmaaGreatDoor.X
namespace Go.Proofs.YtbelnkdbghggmaaGreatDoor.X
open Go.RowKit Go.Proofs.YtbelnkdbghggmaaGreatDoorW.PrintWords
set_option linter.unusedVariables false
set_option linter.unusedSimpArgs false
theorem rUses10 (n : Nat) (hn : n < 26) (k : Nat) (hk : k < 4) : curtilageref08_uses.f 10 (n : Int) (letter k) = some (uses (n : Int) k) := by
  have key : ∀ (n : Fin 26) (k : Fin 4), curtilageref08_uses.f 10 (n.1 : Int) (letter k.1) = some (uses (n.1 : Int) k.1) := by decide +kernel
  exact key ⟨n, hn⟩ ⟨k, hk⟩
theorem rReg (a : Int) (u : Bool) : curtilageref08_register.f a u = some (!((!u && (a != 0)) || (decide (a < 0) || decide (a ≥ 16)))) := by
  unfold curtilageref08_register.f
  by_cases h0 : a = 0
  · subst h0; cases u <;> rfl
  · rw [if_neg h0]
    have h1 : (a != 0) = true := by simp [h0]
    cases u
    · rw [if_neg (by decide), h1]; rfl
    · rw [if_pos rfl]
      by_cases h2 : a > 0
      · rw [if_pos h2, decide_eq_false (show ¬ a < 0 by omega)]
        simp
        by_cases h3 : a < 16
        · simp [h3]
        · simp [h3]; omega
      · rw [if_neg h2, decide_eq_true (show a < 0 by omega)]
        simp
theorem rFit10 (op a b c e : Int) : curtilageref08_Fit.f 10 op a b c e = some (fitB op a b c e) := by
  unfold curtilageref08_Fit.f fitB
  by_cases h0 : op ≥ 0
  · rw [if_pos h0]
    by_cases h1 : op < 26
    · rw [if_pos h1, decide_eq_true (And.intro h0 h1), Bool.true_and, fitP_iff]
      obtain ⟨n, rfl⟩ : ∃ n : Nat, op = (n : Int) := ⟨op.toNat, by omega⟩
      have hu := fun k hk => rUses10 n (by omega) k hk
      have b0 : bad (n : Int) a b c e 0 = ((!(uses n 0) && (a != 0)) || (decide (a < 0) || decide (a ≥ 16))) := rfl
      have b1 : bad (n : Int) a b c e 1 = ((!(uses n 1) && (b != 0)) || (decide (b < 0) || decide (b ≥ 16))) := rfl
      have b2 : bad (n : Int) a b c e 2 = ((!(uses n 2) && (c != 0)) || (decide (c < 0) || decide (c ≥ 16))) := rfl
      have b3 : bad (n : Int) a b c e 3 = (!(uses n 3) && (e != 0)) := by unfold bad num letter; simp
      rw [show (97 : Int) = letter 0 from rfl, hu 0 (by decide), show (98 : Int) = letter 1 from rfl, hu 1 (by decide), show (99 : Int) = letter 2 from rfl, hu 2 (by decide), show (105 : Int) = letter 3 from rfl, hu 3 (by decide)]
      simp only [Option.bind_some, rReg]
      rw [← b0, ← b1, ← b2, b3]
      cases bad (n : Int) a b c e 0 <;> cases bad (n : Int) a b c e 1 <;> cases bad (n : Int) a b c e 2 <;> cases uses (n : Int) 3 <;> by_cases he : e = 0 <;> simp [he]
    · rw [if_neg h1, decide_eq_false (by omega)]; rfl
  · rw [if_neg h0, decide_eq_false (by omega)]; rfl
theorem rFit (K : Nat) (hK : 10 ≤ K) (op a b c e : Int) : curtilageref08_Fit.f K op a b c e = some (fitB op a b c e) := at_rounds (curtilageref08_Fit.mono _ _ _ _ _) hK (rFit10 op a b c e)
end Go.Proofs.YtbelnkdbghggmaaGreatDoor.X
namespace Go.Proofs.YtbelnkdbghggmaaGreatDoor.X
open Go.RowKit Go.Proofs.YtbelnkdbghggmaaGreatDoorW.PrintWords
set_option linter.unusedVariables false
set_option linter.unusedSimpArgs false
theorem ba_ext {a b : ByteArray} (h : a.data.toList = b.data.toList) : a = b := by
  cases a; cases b; congr; exact Array.toList_inj.1 h
theorem app_data (a b : ByteArray) : (a ++ b).data.toList = a.data.toList ++ b.data.toList := by simp [ByteArray.data_append]
end Go.Proofs.YtbelnkdbghggmaaGreatDoor.X
namespace Go.Proofs.YtbelnkdbghggmaaGreatDoor.X
set_option linter.unusedVariables false
set_option linter.unusedSimpArgs false
theorem ix_none (c : UInt8) : ∀ l : List UInt8, c ∉ l → Lib.index l [c] = -1
  | [], _ => rfl
  | b :: l, h => by
    have h1 : b ≠ c := fun e => h (by rw [e]; exact List.mem_cons_self)
    have h2 := ix_none c l fun k => h (List.mem_cons_of_mem _ k)
    have hp : ([c] : List UInt8).isPrefixOf (b :: l) = false := by simp [List.isPrefixOf, Ne.symm h1]
    rw [Lib.index, hp, h2]
    rfl
theorem ix_at (c : UInt8) (b : List UInt8) : ∀ a : List UInt8, c ∉ a → Lib.index (a ++ c :: b) [c] = (a.length : Int)
  | [], _ => by
    rw [List.nil_append, Lib.index]
    simp [List.isPrefixOf]
  | x :: a, h => by
    have h1 : x ≠ c := fun e => h (by rw [e]; exact List.mem_cons_self)
    have h2 := ix_at c b a fun k => h (List.mem_cons_of_mem _ k)
    have hp : ([c] : List UInt8).isPrefixOf (x :: (a ++ c :: b)) = false := by simp [List.isPrefixOf, Ne.symm h1]
    rw [List.cons_append, Lib.index, hp, h2, if_neg (by decide), if_neg (by intro k; have := beq_iff_eq.1 k; omega)]
    simp
theorem cut_none (c : UInt8) (l : List UInt8) (h : c ∉ l) : Lib.cut l [c] = (l, [], false) := by
  unfold Lib.cut
  rw [ix_none c l h, if_neg (by decide)]
theorem cut_at (c : UInt8) (a b : List UInt8) (h : c ∉ a) : Lib.cut (a ++ c :: b) [c] = (a, b, true) := by
  unfold Lib.cut
  rw [ix_at c b a h, if_pos (by omega)]
  simp
/-- Words with a blank ahead of each. -/
def joined : List (List UInt8) → List UInt8
  | [] => []
  | w :: r => 32 :: (w ++ joined r)
theorem joined_append (l m : List (List UInt8)) : joined (l ++ m) = joined l ++ joined m := by
  induction l with
  | nil => rfl
  | cons w r ih => simp [joined, ih]
theorem joined_count : ∀ (ws : List (List UInt8)), (∀ w ∈ ws, (32 : UInt8) ∉ w) → (joined ws).count 32 = ws.length
  | [], _ => rfl
  | w :: r, h => by
    have h1 : w.count 32 = 0 := List.count_eq_zero.2 (h w List.mem_cons_self)
    have h2 := joined_count r fun v hv => h v (List.mem_cons_of_mem _ hv)
    simp [joined, List.count_cons, List.count_append, h1, h2]
theorem splitK_joined : ∀ (ws : List (List UInt8)) (a : List UInt8), (32 : UInt8) ∉ a → (∀ w ∈ ws, (32 : UInt8) ∉ w) → Lib.splitK [32] 0 ws.length (a ++ joined ws) = a :: ws
  | [], a, _, _ => by simp [joined, Lib.splitK]
  | w :: r, a, ha, h => by
    have ih := splitK_joined r w (h w List.mem_cons_self) fun v hv => h v (List.mem_cons_of_mem _ hv)
    simp only [joined, List.length_cons, Lib.splitK]
    rw [ix_at 32 (w ++ joined r) a ha, if_neg (by intro k; have := beq_iff_eq.1 k; omega)]
    have e : (a ++ 32 :: (w ++ joined r)).drop ((a.length : Int).toNat + (([] : List UInt8).length + 1)) = w ++ joined r := by simp
    rw [e, ih]
    simp
theorem split_joined (ws : List (List UInt8)) (a : List UInt8) (ha : (32 : UInt8) ∉ a) (h : ∀ w ∈ ws, (32 : UInt8) ∉ w) : Lib.splitK [32] 0 (Lib.count (a ++ joined ws) [32]) (a ++ joined ws) = a :: ws := by
  have hc : Lib.count (a ++ joined ws) [32] = ws.length := by
    rw [Lib.count_one, List.count_append, List.count_eq_zero.2 ha, joined_count ws h]
    omega
  rw [hc]
  exact splitK_joined ws a ha h
theorem splitB_size (sep : ByteArray) : ∀ (k : Nat) (s : ByteArray), ∀ w ∈ Lib.splitB sep 0 k s, w.size ≤ s.size
  | 0, s, w, h => by
    simp only [Lib.splitB, List.mem_singleton] at h
    rw [h]
    exact Nat.le_refl _
  | k + 1, s, w, h => by
    rw [Lib.splitB] at h
    split at h
    · rw [List.mem_singleton] at h
      rw [h]
      exact Nat.le_refl _
    · rcases List.mem_cons.1 h with h | h
      · rw [h, ByteArray.size_extract]
        omega
      · have := splitB_size sep k _ w h
        rw [ByteArray.size_extract] at this
        omega
theorem digits_range (u : Nat) : ∀ c ∈ Lib.decDigits u, 48 ≤ c.toNat ∧ c.toNat ≤ 57 := by
  induction u using Nat.strongRecOn with
  | _ u ih =>
    intro c hc
    rw [Lib.decDigits] at hc
    split at hc
    · rename_i h
      simp only [List.mem_singleton] at hc
      subst hc
      rw [UInt8.toNat_ofNat']
      omega
    · rename_i h
      rcases List.mem_append.1 hc with hc | hc
      · exact ih (u / 10) (by omega) c hc
      · simp only [List.mem_singleton] at hc
        subst hc
        rw [UInt8.toNat_ofNat']
        omega
theorem itoa_chars (n : Int) : ∀ c ∈ Lib.itoa n, c = 45 ∨ (48 ≤ c.toNat ∧ c.toNat ≤ 57) := by
  intro c hc
  unfold Lib.itoa at hc
  split at hc
  · rcases List.mem_cons.1 hc with h | h
    · exact .inl h
    · exact .inr (digits_range _ c h)
  · exact .inr (digits_range _ c hc)
theorem parseM_snoc (M : Nat) (c : UInt8) : ∀ (l : List UInt8) (acc u : Nat), Lib.parseUintM M acc l = .ok u → 48 ≤ c.toNat ∧ c.toNat ≤ 57 → u * 10 + (c.toNat - 48) ≤ M → M < 18446744073709551616 → Lib.parseUintM M acc (l ++ [c]) = .ok (u * 10 + (c.toNat - 48))
  | [], acc, u, h, hc, hb, hM => by
    simp only [Lib.parseUintM] at h
    cases h
    simp only [List.nil_append, Lib.parseUintM]
    rw [if_pos hc, if_neg (by omega), if_neg (by omega)]
  | x :: l, acc, u, h, hc, hb, hM => by
    simp only [Lib.parseUintM] at h
    simp only [List.cons_append, Lib.parseUintM]
    split at h
    · rename_i hx
      rw [if_pos hx]
      split at h
      · cases h
      · rename_i h1
        rw [if_neg h1]
        split at h
        · cases h
        · rename_i h2
          rw [if_neg h2]
          exact parseM_snoc M c l _ u h hc hb hM
    · cases h
theorem parseM_digits (M : Nat) (hM : M < 18446744073709551616) (u : Nat) (hu : u ≤ M) : Lib.parseUintM M 0 (Lib.decDigits u) = .ok u := by
  induction u using Nat.strongRecOn with
  | _ u ih =>
    by_cases h : u < 10
    · have e : (UInt8.ofNat (48 + u)).toNat = 48 + u := by rw [UInt8.toNat_ofNat']; omega
      rw [Lib.decDigits_one h]
      have := parseM_snoc M (UInt8.ofNat (48 + u)) [] 0 0 rfl (by rw [e]; omega) (by rw [e]; omega) hM
      rw [e] at this
      simpa using this
    · have e : (UInt8.ofNat (48 + u % 10)).toNat = 48 + u % 10 := by rw [UInt8.toNat_ofNat']; omega
      rw [Lib.decDigits, dif_neg h]
      have := parseM_snoc M (UInt8.ofNat (48 + u % 10)) _ 0 (u / 10) (ih (u / 10) (by omega) (by omega)) (by rw [e]; omega) (by rw [e]; omega) hM
      rw [this, e]
      congr 1
      omega
theorem decDigits_ne (u : Nat) : Lib.decDigits u ≠ [] := by
  intro h
  have := congrArg List.length h
  rw [Lib.decDigits_length] at this
  have := Lib.nDigits_pos u
  simp at *
  omega
theorem parseI_itoa (n : Int) (h0 : -2147483648 ≤ n) (h1 : n ≤ 2147483647) : Lib.parseIntB 32 (Lib.itoa n) = .ok n := by
  by_cases h : n < 0
  · obtain ⟨u, rfl⟩ : ∃ u : Nat, n = -(u : Int) := ⟨n.natAbs, by omega⟩
    rw [Lib.itoa_neg u (by omega), Lib.parseIntB_minus, Lib.parseUintB, if_neg (decDigits_ne u), parseM_digits _ (by decide) u (by show u ≤ 4294967295; omega)]
    have : ¬ 2 ^ (32 - 1) < u := by show ¬ 2147483648 < u; omega
    simp only [Lib.signedC, if_neg this]
  · obtain ⟨u, rfl⟩ : ∃ u : Nat, n = (u : Int) := ⟨n.toNat, by omega⟩
    have hp := parseM_digits (2 ^ 32 - 1) (by decide) u (by show u ≤ 4294967295; omega)
    rw [Lib.itoa_nonneg]
    have hr := digits_range u
    have hne := decDigits_ne u
    revert hr hne hp
    generalize Lib.decDigits u = l
    cases l with
    | nil => intro _ _ hne; exact absurd rfl hne
    | cons c r =>
      intro hp hr _
      have hc := hr c List.mem_cons_self
      rw [Lib.parseIntB_plain 32 c r (by omega) (by omega), Lib.parseUintB, if_neg (by simp), hp]
      have : ¬ 2 ^ (32 - 1) ≤ u := by show ¬ 2147483648 ≤ u; omega
      simp only [Lib.signlessC, if_neg this]
theorem itoa_len32 (n : Int) (h0 : -2147483648 ≤ n) (h1 : n ≤ 2147483647) : (Lib.itoa n).length ≤ 11 := by
  have key : ∀ u : Nat, u ≤ 2147483648 → (Lib.decDigits u).length ≤ 10 := by
    intro u hu
    rw [Lib.decDigits_length]
    rcases Nat.lt_or_ge (Lib.nDigits u) 11 with h | h
    · omega
    · exfalso
      have key2 : ∀ (k u : Nat), k + 1 ≤ Lib.nDigits u → 10 ^ k ≤ u ∨ k = 0 := by
        intro k
        induction k with
        | zero => intro u _; exact .inr rfl
        | succ k ih =>
          intro u hk
          left
          by_cases hu : u < 10
          · rw [Lib.nDigits_small hu] at hk; omega
          · rw [Lib.nDigits_big hu] at hk
            rw [Nat.pow_succ]
            rcases ih (u / 10) (by omega) with h | h
            · omega
            · subst h; omega
      rcases key2 10 u (by omega) with h | h
      · have : (10 : Nat) ^ 10 = 10000000000 := by decide
        omega
      · omega
  unfold Lib.itoa
  split
  · have := key n.natAbs (by omega)
    simp only [List.length_cons]
    omega
  · have := key n.toNat (by omega)
    omega
end Go.Proofs.YtbelnkdbghggmaaGreatDoor.X
namespace Go.Proofs.YtbelnkdbghggmaaGreatDoor.X
open Go.RowKit Go.Proofs.YtbelnkdbghggmaaGreatDoorW.PrintWords
set_option linter.unusedVariables false
set_option linter.unusedSimpArgs false
theorem bytes_inj {a b : ByteArray} (h : a.toList = b.toList) : a = b := by
  rw [ByteArray.toList_eq, ByteArray.toList_eq] at h
  cases a; cases b
  congr 1
  exact Array.ext' h
theorem of_data (a : ByteArray) : (⟨a.data.toList.toArray⟩ : ByteArray) = a := by cases a; simp
theorem eq_of_data {a : ByteArray} {l : List UInt8} (h : a.data.toList = l) : a = ⟨l.toArray⟩ := by rw [← h, of_data]
theorem size_data (a : ByteArray) : a.size = a.data.toList.length := rfl
theorem nil_data {a : ByteArray} (h : a.toList = ([] : List UInt8)) : a = ⟨#[]⟩ := bytes_inj (by rw [h, ByteArray.toList_eq])
theorem names_inj (n m : Nat) (hn : n < 26) (hm : m < 26) (h : (nameN n).data.toList = (nameN m).data.toList) : n = m := by
  have key : ∀ n m : Fin 26, (nameN n.1).data.toList = (nameN m.1).data.toList → n = m := by decide +kernel
  exact congrArg Fin.val (key ⟨n, hn⟩ ⟨m, hm⟩ h)
/-- A word of a text that is no end of one. -/
def wch (c : UInt8) : Prop := c ≠ 10 ∧ c ≠ 32 ∧ c ≠ 58
theorem names_chars (n : Nat) (hn : n < 26) : ∀ c ∈ (nameN n).data.toList, wch c ∧ c ≠ 64 := by
  have key : ∀ n : Fin 26, ((nameN n.1).data.toList.all fun c => c != 10 && (c != 32 && (c != 58 && c != 64))) = true := by decide +kernel
  intro c hc
  have h := List.all_eq_true.1 (key ⟨n, hn⟩) c hc
  simp only [Bool.and_eq_true, bne_iff_ne, ne_eq] at h
  exact ⟨⟨h.1, h.2.1, h.2.2.1⟩, h.2.2.2⟩
theorem itoa_wch (n : Int) : ∀ c ∈ Lib.itoa n, wch c ∧ c ≠ 64 ∧ c ≠ 43 ∧ c ≠ 114 := by
  intro c hc
  have h := itoa_chars n c hc
  have e : ∀ d : UInt8, d ≠ 45 → (d.toNat < 48 ∨ 57 < d.toNat) → c ≠ d := fun d h1 h2 k => by
    subst k
    rcases h with h | h
    · exact h1 h
    · omega
  exact ⟨⟨e 10 (by decide) (by decide), e 32 (by decide) (by decide), e 58 (by decide) (by decide)⟩, e 64 (by decide) (by decide), e 43 (by decide) (by decide), e 114 (by decide) (by decide)⟩
theorem bt_get (s : ByteArray) (i : Nat) (h : i < s.data.toList.length) : bt s (i : Int) = ((s.data.toList[i]'h).toNat : Int) := by
  have h2 : i < s.size := h
  simp [bt, h2, List.getD_eq_getElem?_getD, List.getElem?_eq_getElem h]
  rfl
theorem named_chars {s : ByteArray} (h : namedB s = true) : ∀ c ∈ s.data.toList, wch c ∧ c ≠ 43 ∧ c ≠ 64 := by
  unfold namedB namesTo at h
  rw [Bool.and_eq_true, List.all_eq_true] at h
  intro c hc
  obtain ⟨i, hi, rfl⟩ := List.getElem_of_mem hc
  have h2 := h.1 i (List.mem_range.2 hi)
  rw [bt_get s i hi] at h2
  have key : ∀ (z : Fin 256), (z.1 = 10 ∨ z.1 = 32 ∨ z.1 = 58 ∨ z.1 = 43 ∨ z.1 = 64) → badN i (z.1 : Int) = true := by
    intro z hz
    have key2 : ∀ (z : Fin 256), (z.1 = 10 ∨ z.1 = 32 ∨ z.1 = 58 ∨ z.1 = 43 ∨ z.1 = 64) → ((!(decide (48 ≤ (z.1 : Int)) && decide ((z.1 : Int) ≤ 57))) && (!(decide (97 ≤ Go.bits .or .u8 (z.1 : Int) 32) && decide (Go.bits .or .u8 (z.1 : Int) 32 ≤ 122))) && ((z.1 : Int) != 95)) = true := by decide +kernel
    unfold badN
    rw [key2 z hz, Bool.true_or]
  have e : ∀ d : UInt8, (d.toNat = 10 ∨ d.toNat = 32 ∨ d.toNat = 58 ∨ d.toNat = 43 ∨ d.toNat = 64) → s.data.toList[i] ≠ d := fun d hd k => by
    rw [k, key ⟨d.toNat, d.toNat_lt⟩ hd] at h2
    exact absurd h2 (by decide)
  exact ⟨⟨e 10 (by decide), e 32 (by decide), e 58 (by decide)⟩, e 43 (by decide), e 64 (by decide)⟩
theorem named_size {s : ByteArray} (h : namedB s = true) : 0 < s.size ∧ s.size ≤ 16 := by
  unfold namedB at h
  simp only [Bool.and_eq_true, decide_eq_true_eq] at h
  exact h.2
theorem fit_used {op a b c e : Int} (h : fitB op a b c e = true) (k : Nat) (hk : k < 4) : uses op k = true ∨ num a b c e k = 0 := by
  unfold fitB at h
  rw [Bool.and_eq_true, decide_eq_true_eq] at h
  have h1 := h.2
  unfold fitP at h1
  rw [List.all_eq_true] at h1
  have h2 := h1 k (List.mem_range.2 hk)
  unfold bad at h2
  cases hu : uses op k with
  | true => exact .inl rfl
  | false =>
    rw [hu] at h2
    right
    simp at h2
    exact h2.1
/-- A text's words behind the name. -/
def wordOf (a b c e : Int) (k : Nat) : List UInt8 := if letter k = 105 then Lib.itoa (num a b c e k) else 114 :: Lib.itoa (num a b c e k)
def wordsOf (op a b c e : Int) (pre : List Nat) : List (List UInt8) := (pre.filter (fun k => uses op k)).map (wordOf a b c e)
theorem textP_fold (op a b c e : Int) : ∀ (pre : List Nat) (s : ByteArray), (pre.foldl (tstep op a b c e) s).data.toList = s.data.toList ++ joined (wordsOf op a b c e pre)
  | [], s => by simp [wordsOf, joined]
  | x :: pre, s => by
    rw [List.foldl_cons, textP_fold op a b c e pre]
    have hw : wordsOf op a b c e (x :: pre) = (if uses op x = true then [wordOf a b c e x] else []) ++ wordsOf op a b c e pre := by
      unfold wordsOf
      by_cases h : uses op x = true
      · rw [if_pos h, List.filter_cons_of_pos h]; rfl
      · rw [if_neg h, List.filter_cons_of_neg h]; rfl
    rw [hw, joined_append, ← List.append_assoc]
    congr 1
    unfold tstep
    by_cases h : uses op x = true
    · rw [if_pos h, if_pos h]
      by_cases hl : letter x = 105
      · rw [if_pos hl, app_data]
        simp [joined, wordOf, hl, itoaB, app_data]
      · rw [if_neg hl, app_data]
        simp [joined, wordOf, hl, itoaB, app_data]
    · rw [if_neg h, if_neg h]
      simp [joined]
theorem textP_words (op a b c e : Int) (pre : List Nat) : (textP op a b c e pre).data.toList = (nameN op.toNat).data.toList ++ joined (wordsOf op a b c e pre) := textP_fold op a b c e pre _
/-- The last word: a number, or a mark with what is added. -/
def wordI (x : S40) : List UInt8 := if x.f2.toList = ([] : List UInt8) then Lib.itoa x.f1.f4 else if x.f1.f4 = 0 then 64 :: x.f2.data.toList else 64 :: (x.f2.data.toList ++ 43 :: Lib.itoa x.f1.f4)
def preW (x : S40) : List (List UInt8) := wordsOf x.f1.f0 x.f1.f1 x.f1.f2 x.f1.f3 0 (List.range 3)
def lineWords (x : S40) : List (List UInt8) := preW x ++ (if uses x.f1.f0 3 = true then [wordI x] else [])
/-- A line's text. -/
def lineT (x : S40) : List UInt8 := if x.f0.toList = ([] : List UInt8) then (nameN x.f1.f0.toNat).data.toList ++ joined (lineWords x) else x.f0.data.toList ++ [58]
def goes5 (op : Int) : Prop := op = 1 ∨ op = 18 ∨ op = 19 ∨ op = 20 ∨ op = 21
theorem uses_goes {op : Int} (h : goes5 op) : uses op 3 = true := by
  rcases h with rfl | rfl | rfl | rfl | rfl <;> decide +kernel
theorem words_split (x : S40) (e : Int) : wordsOf x.f1.f0 x.f1.f1 x.f1.f2 x.f1.f3 e (List.range 4) = preW x ++ (if uses x.f1.f0 3 = true then [Lib.itoa e] else []) := by
  unfold preW wordsOf
  rw [show List.range 4 = List.range 3 ++ [3] from rfl, List.filter_append, List.map_append]
  have h3 : ∀ k ∈ (List.range 3).filter (fun k => uses x.f1.f0 k), wordOf x.f1.f1 x.f1.f2 x.f1.f3 e k = wordOf x.f1.f1 x.f1.f2 x.f1.f3 0 k := by
    intro k hk
    have hk2 : k < 3 := List.mem_range.1 (List.mem_filter.1 hk).1
    have : k = 0 ∨ k = 1 ∨ k = 2 := by omega
    rcases this with rfl | rfl | rfl <;> rfl
  rw [List.map_congr_left h3]
  by_cases h : uses x.f1.f0 3 = true
  · rw [if_pos h, List.filter_cons_of_pos h]; rfl
  · rw [if_neg h, List.filter_cons_of_neg h]; rfl
/-- What a good line is. -/
theorem good_cases {x : S40} (h : goodB x = true) : (x.f0.toList = [] ∧ fitB x.f1.f0 x.f1.f1 x.f1.f2 x.f1.f3 x.f1.f4 = true ∧ (x.f2.toList = [] ∨ (x.f2.toList ≠ [] ∧ namedB x.f2 = true ∧ goes5 x.f1.f0 ∧ (x.f1.f0 ≠ 1 → x.f1.f4 = 0)))) ∨ (x.f0.toList ≠ [] ∧ namedB x.f0 = true ∧ (x.f1.f0 = 0 ∧ x.f1.f1 = 0 ∧ x.f1.f2 = 0 ∧ x.f1.f3 = 0 ∧ x.f1.f4 = 0) ∧ x.f2.toList = []) := by
  unfold goodB at h
  split at h
  · rename_i h0
    rw [Bool.and_eq_true] at h
    refine .inl ⟨h0, h.1, ?_⟩
    by_cases h2 : x.f2.toList = []
    · exact .inl h2
    · have h3 := h.2
      rw [decide_eq_false h2, Bool.false_or, Bool.and_eq_true] at h3
      refine .inr ⟨h2, h3.1, ?_⟩
      have h4 := h3.2
      unfold jumpsB at h4
      simp only [Bool.or_eq_true, Bool.and_eq_true, decide_eq_true_eq] at h4
      unfold goes5
      rcases h4 with h4 | h4
      · exact ⟨.inl h4, fun k => absurd h4 k⟩
      · refine ⟨?_, fun _ => h4.2⟩
        omega
  · rename_i h0
    simp only [Bool.and_eq_true, beq_iff_eq] at h
    exact .inr ⟨h0, h.1, h.2.1, h.2.2⟩
theorem text_data (x : S40) : (textP x.f1.f0 x.f1.f1 x.f1.f2 x.f1.f3 x.f1.f4 (List.range 4)).data.toList = (nameN x.f1.f0.toNat).data.toList ++ joined (preW x ++ (if uses x.f1.f0 3 = true then [Lib.itoa x.f1.f4] else [])) := by
  rw [textP_words, words_split]
theorem trim_app (a s : List UInt8) : Lib.trimSuffix (a ++ s) s = a := by
  unfold Lib.trimSuffix Lib.hasSuffix
  rw [if_pos (by rw [List.isSuffixOf_iff_suffix]; exact List.suffix_append a s)]
  simp
/-- What stands ahead of the last number. -/
def ahead (x : S40) : ByteArray := ⟨((nameN x.f1.f0.toNat).data.toList ++ joined (preW x) ++ [32]).toArray⟩
theorem text_goes {x : S40} (h : goes5 x.f1.f0) : textP x.f1.f0 x.f1.f1 x.f1.f2 x.f1.f3 x.f1.f4 (List.range 4) = ahead x ++ itoaB x.f1.f4 := by
  apply ba_ext
  rw [text_data, if_pos (uses_goes h), joined_append, app_data]
  simp [ahead, itoaB, joined]
theorem line_goes {x : S40} (h0 : x.f0.toList = []) (h : goes5 x.f1.f0) (ht : x.f2.toList ≠ []) : lineT x = (ahead x).data.toList ++ (64 :: (x.f2.data.toList ++ (if x.f1.f4 = 0 then [] else 43 :: Lib.itoa x.f1.f4))) := by
  unfold lineT lineWords wordI
  rw [if_pos h0, if_pos (uses_goes h), if_neg ht, joined_append]
  by_cases he : x.f1.f4 = 0
  · rw [if_pos he, if_pos he]; simp [ahead, joined]
  · rw [if_neg he, if_neg he]; simp [ahead, joined]
theorem textX_size {x : S40} (hw : wfX x) (hf : fitB x.f1.f0 x.f1.f1 x.f1.f2 x.f1.f3 x.f1.f4 = true) : (textP x.f1.f0 x.f1.f1 x.f1.f2 x.f1.f3 x.f1.f4 (List.range 4)).size ≤ 100 := by
  have := txt_size x.f1.f0 x.f1.f1 x.f1.f2 x.f1.f3 x.f1.f4 hw.1
  unfold txtV at this
  rwa [if_pos hf] at this
theorem ahead_size {x : S40} (hw : wfX x) (hf : fitB x.f1.f0 x.f1.f1 x.f1.f2 x.f1.f3 x.f1.f4 = true) (h : goes5 x.f1.f0) : (ahead x).size ≤ 100 := by
  have := textX_size hw hf
  rw [text_goes h, bsize_append] at this
  omega
theorem line_fit {x : S40} (h0 : x.f0.toList = []) (ht : x.f2.toList = []) : lineT x = (textP x.f1.f0 x.f1.f1 x.f1.f2 x.f1.f3 x.f1.f4 (List.range 4)).data.toList := by
  unfold lineT lineWords wordI
  rw [if_pos h0, text_data, if_pos ht]
/-- The program's text of a good line. -/
theorem txt_good {x : S40} (hw : wfX x) (h : goodB x = true) : txtF x = some ⟨(lineT x).toArray⟩ := by
  unfold txtF asm_text.f inst_TextE.f
  rcases good_cases h with ⟨h0, hf, ht⟩ | ⟨h0, hn, _, h2⟩
  · rw [if_pos h0, txt_val _ _ _ _ _ hw.1]
    simp only [Option.bind_some]
    rw [show txtV x.f1.f0 x.f1.f1 x.f1.f2 x.f1.f3 x.f1.f4 = textP x.f1.f0 x.f1.f1 x.f1.f2 x.f1.f3 x.f1.f4 (List.range 4) from if_pos hf]
    rcases ht with ht | ⟨ht, hn, hg, hj⟩
    · rw [if_pos ht]
      exact congrArg some (eq_of_data (line_fit h0 ht).symm)
    · have hs := textX_size hw hf
      have ha := ahead_size hw hf hg
      have hN := (named_size hn).2
      have hI := itoaB_size x.f1.f4 (by have := hw.1; omega) (by have := hw.1; omega)
      have h64 : wrap64 x.f1.f4 = x.f1.f4 := by unfold wrap64; have := hw.1; omega
      rw [if_neg ht, h64]
      unfold strconv_Itoa.f
      rw [if_pos (by have := hw.1; omega)]
      simp only [Option.bind_some]
      unfold strings_TrimSuffix.f
      rw [if_pos (by omega)]
      simp only [Option.bind_some]
      have htr : (⟨(Lib.trimSuffix (textP x.f1.f0 x.f1.f1 x.f1.f2 x.f1.f3 x.f1.f4 (List.range 4)).data.toList (itoaB x.f1.f4).data.toList).toArray⟩ : ByteArray) = ahead x := by
        rw [text_goes hg, app_data, trim_app]
        try simp [app_data]
      have z64 : (⟨#[64]⟩ : ByteArray).size = 1 := rfl
      have z43 : (⟨#[43]⟩ : ByteArray).size = 1 := rfl
      rw [htr, if_pos (by omega), if_pos (by rw [bsize_append, z64]; omega), line_goes h0 hg ht]
      by_cases he : x.f1.f4 = 0
      · rw [if_pos he, if_pos he]
        refine congrArg some (ba_ext ?_)
        simp [app_data]
      · rw [if_neg he, if_neg he, if_pos (by omega), if_pos (by rw [bsize_append, bsize_append, bsize_append, z64, z43]; omega)]
        refine congrArg some (ba_ext ?_)
        simp [app_data, itoaB]
  · have hN := (named_size hn).2
    rw [if_neg h0, if_pos (by omega)]
    unfold lineT
    rw [if_neg h0]
    refine congrArg some (ba_ext ?_)
    simp [app_data]
theorem joined_mem {c : UInt8} : ∀ {ws : List (List UInt8)}, c ∈ joined ws → c = 32 ∨ ∃ w ∈ ws, c ∈ w
  | [], h => by simp [joined] at h
  | w :: r, h => by
    simp only [joined, List.mem_cons, List.mem_append] at h
    rcases h with h | h | h
    · exact .inl h
    · exact .inr ⟨w, List.mem_cons_self, h⟩
    · rcases joined_mem h with h | ⟨v, hv, h⟩
      · exact .inl h
      · exact .inr ⟨v, List.mem_cons_of_mem _ hv, h⟩
theorem words_chars {x : S40} (h0 : x.f0.toList = []) (h : goodB x = true) : ∀ w ∈ lineWords x, ∀ c ∈ w, wch c := by
  rcases good_cases h with ⟨_, hf, ht⟩ | ⟨h1, _⟩
  · intro w hw c hc
    unfold lineWords at hw
    have cons : ∀ (d : UInt8) (l : List UInt8), wch d → (∀ c ∈ l, wch c) → ∀ c ∈ d :: l, wch c := fun d l hd hl c hc => by
      rcases List.mem_cons.1 hc with h | h
      · rw [h]; exact hd
      · exact hl c h
    have w114 : wch 114 := by unfold wch; decide
    have w64 : wch 64 := by unfold wch; decide
    have w43 : wch 43 := by unfold wch; decide
    rcases List.mem_append.1 hw with hw | hw
    · unfold preW wordsOf at hw
      obtain ⟨k, _, rfl⟩ := List.mem_map.1 hw
      unfold wordOf at hc
      split at hc
      · exact (itoa_wch _ c hc).1
      · exact cons 114 _ w114 (fun c hc => (itoa_wch _ c hc).1) c hc
    · split at hw
      · rw [List.mem_singleton] at hw
        subst hw
        unfold wordI at hc
        split at hc
        · exact (itoa_wch _ c hc).1
        · rename_i h2
          rcases ht with ht | ⟨_, hn, _⟩
          · exact absurd ht h2
          · split at hc
            · exact cons 64 _ w64 (fun c hc => (named_chars hn c hc).1) c hc
            · refine cons 64 _ w64 (fun c hc => ?_) c hc
              rcases List.mem_append.1 hc with hc | hc
              · exact (named_chars hn c hc).1
              · exact cons 43 _ w43 (fun c hc => (itoa_wch _ c hc).1) c hc
      · simp at hw
  · exact absurd h0 h1
theorem line_chars {x : S40} (h : goodB x = true) : (10 : UInt8) ∉ lineT x ∧ (x.f0.toList = [] → (58 : UInt8) ∉ lineT x) ∧ lineT x ≠ [] ∧ (x.f0.toList = [] → (nameN x.f1.f0.toNat).data.toList ≠ []) := by
  have hcs := good_cases h
  have op26 : x.f0.toList = [] → 0 ≤ x.f1.f0 ∧ x.f1.f0 < 26 := fun h0 => by
    rcases hcs with ⟨_, hf, _⟩ | ⟨h1, _⟩
    · have := fitB_regs hf; omega
    · exact absurd h0 h1
  have key : ∀ n : Fin 26, (nameN n.1).data.toList ≠ [] := by decide +kernel
  have hne : x.f0.toList = [] → (nameN x.f1.f0.toNat).data.toList ≠ [] := fun h0 => by
    have := op26 h0
    exact key ⟨x.f1.f0.toNat, by omega⟩
  have all : x.f0.toList = [] → ∀ c ∈ lineT x, c ≠ 10 ∧ c ≠ 58 := fun h0 c hc => by
    have := op26 h0
    unfold lineT at hc
    rw [if_pos h0] at hc
    rcases List.mem_append.1 hc with hc | hc
    · have := (names_chars _ (by omega) c hc).1
      exact ⟨this.1, this.2.2⟩
    · rcases joined_mem hc with hc | ⟨w, hw, hc⟩
      · subst hc; decide
      · have := words_chars h0 h w hw c hc
        exact ⟨this.1, this.2.2⟩
  refine ⟨?_, fun h0 k => (all h0 58 k).2 rfl, ?_, hne⟩
  · intro hc
    by_cases h0 : x.f0.toList = []
    · exact (all h0 10 hc).1 rfl
    · rcases hcs with ⟨h1, _⟩ | ⟨_, hn, _⟩
      · exact h0 h1
      · unfold lineT at hc
        rw [if_neg h0] at hc
        rcases List.mem_append.1 hc with hc | hc
        · exact (named_chars hn 10 hc).1.1 rfl
        · simp at hc
  · intro k
    by_cases h0 : x.f0.toList = []
    · unfold lineT at k
      rw [if_pos h0] at k
      exact hne h0 (List.append_eq_nil_iff.1 k).1
    · unfold lineT at k
      rw [if_neg h0] at k
      simp at k
theorem line_size {x : S40} (hw : wfX x) (h : goodB x = true) : (lineT x).length ≤ 150 := by
  rcases good_cases h with ⟨h0, hf, ht⟩ | ⟨h0, hn, _⟩
  · have hs := textX_size hw hf
    rcases ht with ht | ⟨ht, hn, hg, _⟩
    · rw [line_fit h0 ht]; exact Nat.le_trans hs (by decide)
    · have ha := ahead_size hw hf hg
      have hN := (named_size hn).2
      have hI := itoa_len32 x.f1.f4 hw.1.1 hw.1.2
      rw [line_goes h0 hg ht]
      rw [size_data] at ha hN
      split <;> simp only [List.length_append, List.length_cons, List.length_nil] <;> omega
  · have hN := (named_size hn).2
    unfold lineT
    rw [if_neg h0, List.length_append]
    rw [size_data] at hN
    simp only [List.length_cons, List.length_nil]
    omega
end Go.Proofs.YtbelnkdbghggmaaGreatDoor.X
namespace Go.Proofs.YtbelnkdbghggmaaGreatDoor.X
open Go.RowKit Go.Proofs.YtbelnkdbghggmaaGreatDoorW.PrintWords
set_option linter.unusedVariables false
set_option linter.unusedSimpArgs false
def toB (l : List UInt8) : ByteArray := ⟨l.toArray⟩
theorem toB_data (l : List UInt8) : (toB l).data.toList = l := rfl
theorem w64 (n : Int) (h0 : -9223372036854775808 ≤ n) (h1 : n ≤ 9223372036854775807) : wrap64 n = n := by unfold wrap64; omega
theorem badN_eq (i : Nat) (c : Int) (h0 : 0 ≤ c) (h1 : c ≤ 255) : badN i c = (((!(decide (48 ≤ c) && decide (c ≤ 57))) && (!((decide (97 ≤ c) && decide (c ≤ 122)) || (decide (65 ≤ c) && decide (c ≤ 90)))) && (c != 95)) || (decide (i = 0) && (decide (48 ≤ c) && decide (c ≤ 57)))) := by
  have key : ∀ z : Fin 256, (decide (97 ≤ Go.bits .or .u8 (z.1 : Int) 32) && decide (Go.bits .or .u8 (z.1 : Int) 32 ≤ 122)) = ((decide (97 ≤ (z.1 : Int)) && decide ((z.1 : Int) ≤ 122)) || (decide (65 ≤ (z.1 : Int)) && decide ((z.1 : Int) ≤ 90))) := by decide +kernel
  have hk := key ⟨c.toNat, by omega⟩
  have e : ((c.toNat : Nat) : Int) = c := by omega
  simp only [e] at hk
  unfold badN
  rw [hk]
  congr 2
  by_cases hi : i = 0
  · subst hi; rfl
  · have : ((i : Int) == 0) = false := by simp [hi]
    rw [this, decide_eq_false hi]
theorem rWord_step (k : Nat) (s : ByteArray) (i : Nat) (c : Int) (h0 : 0 ≤ c) (h1 : c ≤ 255) (hi : i < s.size) (hb : bt s (i : Int) = c) :
    curtilageref10_word.l0 (k + 1) s (i : Int) = if badN i c = true then some false else curtilageref10_word.l0 k s (wrap64 ((i : Int) + 1)) := by
  simp only [curtilageref10_word.l0]
  rw [if_pos (by omega), if_pos (by omega), hb, badN_eq i c h0 h1]
  generalize curtilageref10_word.l0 k s (wrap64 ((i : Int) + 1)) = L
  repeat' split
  all_goals first
    | rfl
    | (exfalso; rename_i h; simp at h; omega)
    | (exfalso; rename_i h; simp at h; simp_all; omega)
theorem rWord (s : ByteArray) (hs : s.size ≤ 9223372036854775807) : ∀ (d k i : Nat), i + d = s.size → d + 2 ≤ k → namesTo s i = true → curtilageref10_word.l0 k s (i : Int) = some (namedB s)
  | 0, k, i, hi, hk, hn => by
    obtain ⟨k, rfl⟩ : ∃ m, k = m + 1 := ⟨k - 1, by omega⟩
    have e : i = s.size := by omega
    subst e
    simp only [curtilageref10_word.l0]
    rw [if_neg (by omega)]
    unfold namedB
    rw [hn, Bool.true_and]
    by_cases h : 0 < s.size
    · rw [if_pos (by omega), decide_eq_true h, Bool.true_and]
      refine congrArg some ?_
      by_cases h2 : s.size ≤ 16
      · rw [decide_eq_true h2, decide_eq_true (by omega)]
      · rw [decide_eq_false h2, decide_eq_false (by omega)]
    · rw [if_neg (by omega), decide_eq_false h, Bool.false_and]
  | d + 1, k, i, hi, hk, hn => by
    obtain ⟨k, rfl⟩ : ∃ m, k = m + 1 := ⟨k - 1, by omega⟩
    have hlt : i < s.data.toList.length := by rw [← size_data]; omega
    have hb := bt_get s i hlt
    have hu := (s.data.toList[i]'hlt).toNat_lt
    rw [rWord_step k s i _ (by omega) (by omega) (by omega) hb]
    by_cases hbad : badN i ((s.data.toList[i]'hlt).toNat : Int) = true
    · rw [if_pos hbad]
      unfold namedB
      rw [namesTo_bad (k := i) (by omega) (by rw [hb]; exact hbad)]
      rfl
    · rw [if_neg hbad, w64 _ (by omega) (by omega)]
      have ih := rWord s hs d k (i + 1) (by omega) (by omega) (by rw [namesTo_succ, hn, hb]; rw [Bool.not_eq_true] at hbad; rw [hbad]; rfl)
      exact ih
theorem rWord_val (K : Nat) (s : ByteArray) (hs : s.size ≤ 9223372036854775807) (hK : s.size + 2 ≤ K) : curtilageref10_word.f K s = some (namedB s) := by
  unfold curtilageref10_word.f
  exact rWord s hs s.size K 0 (by omega) (by omega) rfl
theorem rGoes (op : Int) : curtilageref10_goes.f op = some (jumpsB op) := by
  unfold curtilageref10_goes.f jumpsB
  by_cases h1 : op = 18 <;> by_cases h2 : op = 19 <;> by_cases h3 : op = 20 <;> by_cases h4 : op = 21 <;> simp [h1, h2, h3, h4]
theorem rGood (K : Nat) (x : S40) (h0 : x.f0.size ≤ 9223372036854775807) (h2 : x.f2.size ≤ 9223372036854775807) (hK : x.f0.size + x.f2.size + 100 ≤ K) : curtilageref10_good.f K x.f0 x.f1.f0 x.f1.f1 x.f1.f2 x.f1.f3 x.f1.f4 x.f2 = some (goodB x) := by
  unfold curtilageref10_good.f goodB
  rw [rFit K (by omega), rWord_val K x.f2 h2 (by omega), rWord_val K x.f0 h0 (by omega), rGoes]
  simp only [Option.bind_some]
  by_cases hm : x.f0.toList = ([] : List UInt8)
  · rw [if_pos hm, if_pos hm]
    cases fitB x.f1.f0 x.f1.f1 x.f1.f2 x.f1.f3 x.f1.f4 with
    | false => rw [if_neg (by decide)]; rfl
    | true =>
      rw [if_pos rfl, Bool.true_and]
      by_cases ht : x.f2.toList = ([] : List UInt8)
      · rw [if_pos ht, decide_eq_true ht]; rfl
      · rw [if_neg ht, decide_eq_false ht, Bool.false_or]
        cases namedB x.f2 with
        | false => rw [if_neg (by decide)]; rfl
        | true =>
          rw [if_pos rfl, Bool.true_and]
          cases hj : jumpsB x.f1.f0 with
          | false =>
            rw [if_neg (by decide)]
            rw [Bool.false_and, Bool.or_false]
            refine congrArg some ?_
            by_cases h1 : x.f1.f0 = 1 <;> simp [h1]
          | true =>
            rw [if_pos rfl, Bool.true_and]
            have : ¬ x.f1.f0 = 1 := by
              unfold jumpsB at hj
              simp only [Bool.or_eq_true, decide_eq_true_eq] at hj
              omega
            by_cases hz : x.f1.f4 = 0 <;> simp [hz, this]
  · rw [if_neg hm, if_neg hm]
    cases namedB x.f0 with
    | false => rw [if_neg (by decide)]; rfl
    | true =>
      rw [if_pos rfl, Bool.true_and]
      by_cases ht : x.f2.toList = ([] : List UInt8)
      · rw [if_pos ht, ht]; simp
      · rw [if_neg ht]
        have : (x.f2.toList == ([] : List UInt8)) = false := by simp [ht]
        rw [this, Bool.and_false]
end Go.Proofs.YtbelnkdbghggmaaGreatDoor.X
namespace Go.Proofs.YtbelnkdbghggmaaGreatDoor.X
open Go.RowKit Go.Proofs.YtbelnkdbghggmaaGreatDoorW.PrintWords
set_option linter.unusedVariables false
set_option linter.unusedSimpArgs false
abbrev I32 (v : Int) : Prop := -2147483648 ≤ v ∧ v ≤ 2147483647
theorem wrap32_bd (n : Int) : I32 (wrap32 n) := by unfold wrap32 I32; omega
end Go.Proofs.YtbelnkdbghggmaaGreatDoor.X
