/- Walks of Go functions: each proves that the call answers what the Lean function of its name computes, wherever that is told; written by a program of this work out of the translation. -/
import Derived.Test.YtbelnkdbghggmaaGreatDoorXx0
import Derived.Test.YtbelnkdbghggmaaGreatDoorMr7
import Derived.Test.YtbelnkdbghggmaaGreatDoorMr8
import Derived.Test.YtbelnkdbghggmaaGreatDoorMr5
namespace Go.Proofs.YtbelnkdbghggmaaGreatDoor.X
open Go.RowKit Go.Proofs.YtbelnkdbghggmaaGreatDoorW.PrintWords Go.Proofs.YtbelnkdbghggmaaGreatDoorW.PrintLast

set_option linter.unusedVariables false
set_option linter.unusedSimpArgs false

/-! ### curtilageref10_number: function 38 -/
mutual
def curtilageref10_number.l0 : Nat → ByteArray → Int → Int → Option (Int × Bool)
 | 0, _, _, _ => none
 | k + 1, x0, x4, x5 => if x5 < (x0.size : Int) then (curtilageref10_number.j1 k x0 x4 x5 (decide (x5 < 11))) else (curtilageref10_number.j1 k x0 x4 x5 false)
def curtilageref10_number.j1 : Nat → ByteArray → Int → Int → Bool → Option (Int × Bool)
 | 0, _, _, _, _ => none
 | k + 1, x0, x4, x5, x13 => if x13 = true then (if x5 = 0 then (if 0 ≤ x5 then (if x5 < (x0.size : Int) then (curtilageref10_number.j2 k x0 x4 x5 ((bt x0 x5) == 45)) else (none)) else (none)) else (curtilageref10_number.j2 k x0 x4 x5 false)) else (if x0.toList = ([] : List UInt8) then (if x4 ≥ (-2147483648) then (if x4 < 2147483648 then ((curtilageref08_Digits.f k x4).bind fun t182 => (some (wrap32 (x4), (t182.toList == x0.toList)))) else (some (wrap32 (x4), false))) else (some (wrap32 (x4), false))) else (if 0 < (x0.size : Int) then (if (bt x0 0) = 45 then (if (wrap64 (-x4)) ≥ (-2147483648) then (if (wrap64 (-x4)) < 2147483648 then ((curtilageref08_Digits.f k (wrap64 (-x4))).bind fun t183 => (some (wrap32 (wrap64 (-x4)), (t183.toList == x0.toList)))) else (some (wrap32 (wrap64 (-x4)), false))) else (some (wrap32 (wrap64 (-x4)), false))) else (if x4 ≥ (-2147483648) then (if x4 < 2147483648 then ((curtilageref08_Digits.f k x4).bind fun t184 => (some (wrap32 (x4), (t184.toList == x0.toList)))) else (some (wrap32 (x4), false))) else (some (wrap32 (x4), false)))) else (none)))
def curtilageref10_number.j2 : Nat → ByteArray → Int → Int → Bool → Option (Int × Bool)
 | 0, _, _, _, _ => none
 | k + 1, x0, x4, x5, x23 => if x23 = true then (curtilageref10_number.l0 k x0 x4 (wrap64 (x5 + 1))) else (if 0 ≤ x5 then (if x5 < (x0.size : Int) then (if (bt x0 x5) < 48 then (some (0, false)) else (if (bt x0 x5) > 57 then (some (0, false)) else (curtilageref10_number.l0 k x0 (wrap64 ((wrap64 (x4 * 10)) + (((bt x0 x5) - 48) % 256))) (wrap64 (x5 + 1))))) else (none)) else (none))
end
def curtilageref10_number.f (k : Nat) (a0 : ByteArray) : Option (Int × Bool) := curtilageref10_number.l0 k a0 0 0
set_option maxHeartbeats 8000000 in
set_option maxRecDepth 100000 in
theorem curtilageref10_number.calls (k : Nat) (a0 : ByteArray) (r1 : Int) (r2 : Bool) (w : World) (h : curtilageref10_number.f k a0 = some (r1, r2)) :
  Calls Tryz.prog 38 #[.string a0] w fun e w' => e = .returned (.tuple #[.int .i32 r1, .bool r2]) ∧ Below w.heap.size w w' := by
 have HB := Q4 (Below.refl w.heap.size w)
 have H : (curtilageref10_number.l0 k a0 0 0) = some (r1, r2) := h
 clear h
 have H' := Q4 H
 clear H
 go_enter Tryz.func38, Tryz.ntmps38
 go_wp2
 go_loopg [4, 5] k (fun kq v4 v5 w' => ∃ (x4_1 : Int) (x5_1 : Int), v4 = .int .i64 x4_1 ∧ v5 = .int .i64 x5_1 ∧ Aside0 (curtilageref10_number.l0 kq a0 x4_1 x5_1 = some (r1, r2)) ∧ Aside0 (kq ≤ k) ∧ Aside0 (Below w.heap.size w w'))
 case atStart => exact ⟨(0), (0), (by first|rfl|(simp; done)|(simp [*]; done)), (by first|rfl|(simp; done)|(simp [*]; done)), H', ⟨Nat.le_refl _⟩, ⟨by repeat (first|(with_reducible first|exact HB.out|apply Q8|apply Q5|apply Q9)|exact HB.out)⟩⟩
 case round =>
  clear H'
  obtain ⟨x4_1, x5_1, rfl, rfl, HA, HK1, HB⟩ := hrel
  cases gk with
  | zero => exact absurd HA.out (by simp [curtilageref10_number.l0])
  | succ k1 =>
   have H := HA.out
   clear HA
   simp only [curtilageref10_number.l0] at H
   have HC2 := Q4 H
   clear H
   go_upto_region 3 with (fail)
   go_cut [13] (fun v13 wc => ∃ (kq : Nat) (x13_1 : Bool), v13 = .bool x13_1 ∧ Aside0 (curtilageref10_number.j1 kq a0 x4_1 x5_1 x13_1 = some (r1, r2)) ∧ Aside0 (kq ≤ k1) ∧ Aside0 (Below w.heap.size w wc))
   case first =>
    have H := HC2.out
    clear HC2
    by_cases c3 : x5_1 < (a0.size : Int)
    ·rw [if_pos c3] at H
     have c3b0 : decide (x5_1 < (a0.size : Int)) = true := Qj c3
     clear c3
     (first | rw [c3b0]|(simp only [i64_w, i32_w]; rw [c3b0])|skip)
     have H' := Q4 H
     clear H
     go_wp2
     go_meet
     case rel => exact ⟨_, (decide (x5_1 < 11)), (by first|rfl|(simp; done)|(simp [*]; done)), H', ⟨by have := HK1.out; first|omega|exact Nat.le_refl _⟩, ⟨by repeat (first|(with_reducible first|exact HB.out|apply Q8|apply Q5|apply Q9)|exact HB.out)⟩⟩
    ·rw [if_neg c3] at H
     have c3b0 : decide (x5_1 < (a0.size : Int)) = false := decide_eq_false c3
     clear c3
     (first | rw [c3b0]|(simp only [i64_w, i32_w]; rw [c3b0])|skip)
     have H' := Q4 H
     clear H
     go_wp2
     go_meet
     case rel => exact ⟨_, (false), (by first|rfl|(simp; done)|(simp [*]; done)), H', ⟨by have := HK1.out; first|omega|exact Nat.le_refl _⟩, ⟨by repeat (first|(with_reducible first|exact HB.out|apply Q8|apply Q5|apply Q9)|exact HB.out)⟩⟩
   case rest =>
    clear HC2
    (try clear p2);(try clear c3);(try clear c3b0)
    obtain ⟨kq, x13_1, rfl, HA, HJ1, HB⟩ := hcut
    cases kq with
    | zero => exact absurd HA.out (by simp [curtilageref10_number.j1])
    | succ kj1 =>
     have H := HA.out
     clear HA
     simp only [curtilageref10_number.j1] at H
     by_cases c4 : x13_1 = true
     ·subst c4
      rw [if_pos rfl] at H
      have HC5 := Q4 H
      clear H
      go_upto_region 5 with (fail)
      go_cut [23] (fun v23 wc => ∃ (kq : Nat) (x23_4 : Bool), v23 = .bool x23_4 ∧ Aside0 (curtilageref10_number.j2 kq a0 x4_1 x5_1 x23_4 = some (r1, r2)) ∧ Aside0 (kq ≤ kj1) ∧ Aside0 (Below w.heap.size w wc))
      case first =>
       have H := HC5.out
       clear HC5
       by_cases c6 : x5_1 = 0
       ·rw [if_pos c6] at H
        have c6b0 : (x5_1 == 0) = true := Qm c6
        have c6b1 : (x5_1 != 0) = false := Qh c6
        clear c6
        (first | rw [c6b0]|(simp only [i64_w, i32_w]; rw [c6b0])|skip)
        by_cases c7 : 0 ≤ x5_1
        ·rw [if_pos c7] at H
         have c7b0 : decide (0 ≤ x5_1) = true := Qj c7
         clear c7
         by_cases c8 : x5_1 < (a0.size : Int)
         ·rw [if_pos c8] at H
          have c8b0 : decide (x5_1 < (a0.size : Int)) = true := Qj c8
          clear c8
          have H' := Q4 H
          clear H
          have p9 : 0 ≤ (x5_1 : Int) := Qc (by first|(with_reducible assumption)|assumption)
          have q9 : x5_1 < (a0.size : Int) := Qc (by first|(with_reducible assumption)|assumption)
          have hx9 := bt_at a0 x5_1
          replace p9 := eq_true p9
          replace q9 := eq_true q9
          go_wp2
          go_meet
          case rel => exact ⟨_, (((bt a0 x5_1) == 45)), (by first|rfl|(simp; done)|(simp [*]; done)), H', ⟨by have := HK1.out; have := HJ1.out; first|omega|exact Nat.le_refl _⟩, ⟨by repeat (first|(with_reducible first|exact HB.out|apply Q8|apply Q5|apply Q9)|exact HB.out)⟩⟩
         ·rw [if_neg c8] at H
          exact absurd H (by simp)
        ·rw [if_neg c7] at H
         exact absurd H (by simp)
       ·rw [if_neg c6] at H
        have c6b0 : (x5_1 == 0) = false := Qk c6
        have c6b1 : (x5_1 != 0) = true := Ql c6
        (first | rw [c6b0]|(simp only [i64_w, i32_w]; rw [c6b0])|skip)
        have H' := Q4 H
        clear H
        go_wp2
        go_meet
        case rel => exact ⟨_, (false), (by first|rfl|(simp; done)|(simp [*]; done)), H', ⟨by have := HK1.out; have := HJ1.out; first|omega|exact Nat.le_refl _⟩, ⟨by repeat (first|(with_reducible first|exact HB.out|apply Q8|apply Q5|apply Q9)|exact HB.out)⟩⟩
      case rest =>
       clear HC5
       (try clear p2);(try clear c3);(try clear c3b0);(try clear c4);(try clear c6);(try clear c6b0);(try clear c6b1);(try clear c7);(try clear c7b0);(try clear c8);(try clear c8b0);(try clear p9);(try clear q9);(try clear hx9);(try clear p2);(try clear p9);(try clear q9)
       obtain ⟨kq, x23_4, rfl, HA, HJ4, HB⟩ := hcut
       cases kq with
       | zero => exact absurd HA.out (by simp [curtilageref10_number.j2])
       | succ kj4 =>
        have H := HA.out
        clear HA
        simp only [curtilageref10_number.j2] at H
        by_cases c10 : x23_4 = true
        ·subst c10
         rw [if_pos rfl] at H
         have H' := Q4 H
         clear H
         go_wp2
         go_roundg kj4
         case measure => have := HK1.out; have := HJ1.out; have := HJ4.out; omega
         case rel => exact ⟨(x4_1), (wrap64 (x5_1 + 1)), (by first|rfl|(simp; done)|(simp [*]; done)), (by first|rfl|(simp; done)|(simp [*]; done)), H', ⟨by have := HK1.out; have := HJ1.out; have := HJ4.out; omega⟩, ⟨by repeat (first|(with_reducible first|exact HB.out|apply Q8|apply Q5|apply Q9)|exact HB.out)⟩⟩
        ·replace c10 := Bool.eq_false_iff.mpr c10
         subst c10
         rw [if_neg (show ¬ (false = true) by decide)] at H
         by_cases c11 : 0 ≤ x5_1
         ·rw [if_pos c11] at H
          have c11b0 : decide (0 ≤ x5_1) = true := Qj c11
          clear c11
          by_cases c12 : x5_1 < (a0.size : Int)
          ·rw [if_pos c12] at H
           have c12b0 : decide (x5_1 < (a0.size : Int)) = true := Qj c12
           clear c12
           by_cases c14 : (bt a0 x5_1) < 48
           ·rw [if_pos c14] at H
            have c14b0 : decide ((bt a0 x5_1) < 48) = true := Qj c14
            clear c14
            simp only [Option.some.injEq, Prod.mk.injEq] at H
            obtain ⟨rfl, rfl⟩ := H
            have p13 : 0 ≤ (x5_1 : Int) := Qc (by first|(with_reducible assumption)|assumption)
            have q13 : x5_1 < (a0.size : Int) := Qc (by first|(with_reducible assumption)|assumption)
            have hx13 := bt_at a0 x5_1
            replace p13 := eq_true p13
            replace q13 := eq_true q13
            go_wp2
            go_ret2
            exact ⟨by first|rfl|(simp [errW_none, errW_some] <;> rfl)|(simp [*, errW_none, errW_some] <;> rfl), by repeat (first|(with_reducible first|exact HB.out|apply Q8|apply Q5|apply Q9)|exact HB.out)⟩
           ·rw [if_neg c14] at H
            have c14b0 : decide ((bt a0 x5_1) < 48) = false := decide_eq_false c14
            clear c14
            by_cases c16 : (bt a0 x5_1) > 57
            ·rw [if_pos c16] at H
             have c16b0 : decide (57 < (bt a0 x5_1)) = true := Qj c16
             clear c16
             simp only [Option.some.injEq, Prod.mk.injEq] at H
             obtain ⟨rfl, rfl⟩ := H
             have p13 : 0 ≤ (x5_1 : Int) := Qc (by first|(with_reducible assumption)|assumption)
             have q13 : x5_1 < (a0.size : Int) := Qc (by first|(with_reducible assumption)|assumption)
             have hx13 := bt_at a0 x5_1
             replace p13 := eq_true p13
             replace q13 := eq_true q13
             have p15 : 0 ≤ (x5_1 : Int) := Qc (by first|(with_reducible assumption)|assumption)
             have q15 : x5_1 < (a0.size : Int) := Qc (by first|(with_reducible assumption)|assumption)
             have hx15 := bt_at a0 x5_1
             replace p15 := eq_true p15
             replace q15 := eq_true q15
             go_wp2
             go_ret2
             exact ⟨by first|rfl|(simp [errW_none, errW_some] <;> rfl)|(simp [*, errW_none, errW_some] <;> rfl), by repeat (first|(with_reducible first|exact HB.out|apply Q8|apply Q5|apply Q9)|exact HB.out)⟩
            ·rw [if_neg c16] at H
             have c16b0 : decide (57 < (bt a0 x5_1)) = false := decide_eq_false c16
             clear c16
             have H' := Q4 H
             clear H
             have p13 : 0 ≤ (x5_1 : Int) := Qc (by first|(with_reducible assumption)|assumption)
             have q13 : x5_1 < (a0.size : Int) := Qc (by first|(with_reducible assumption)|assumption)
             have hx13 := bt_at a0 x5_1
             replace p13 := eq_true p13
             replace q13 := eq_true q13
             have p15 : 0 ≤ (x5_1 : Int) := Qc (by first|(with_reducible assumption)|assumption)
             have q15 : x5_1 < (a0.size : Int) := Qc (by first|(with_reducible assumption)|assumption)
             have hx15 := bt_at a0 x5_1
             replace p15 := eq_true p15
             replace q15 := eq_true q15
             have p17 : 0 ≤ (x5_1 : Int) := Qc (by first|(with_reducible assumption)|assumption)
             have q17 : x5_1 < (a0.size : Int) := Qc (by first|(with_reducible assumption)|assumption)
             have hx17 := bt_at a0 x5_1
             replace p17 := eq_true p17
             replace q17 := eq_true q17
             go_wp2
             go_roundg kj4
             case measure => have := HK1.out; have := HJ1.out; have := HJ4.out; omega
             case rel => exact ⟨(wrap64 ((wrap64 (x4_1 * 10)) + (((bt a0 x5_1) - 48) % 256))), (wrap64 (x5_1 + 1)), (by first|rfl|(simp; done)|(simp [*]; done)), (by first|rfl|(simp; done)|(simp [*]; done)), H', ⟨by have := HK1.out; have := HJ1.out; have := HJ4.out; omega⟩, ⟨by repeat (first|(with_reducible first|exact HB.out|apply Q8|apply Q5|apply Q9)|exact HB.out)⟩⟩
          ·rw [if_neg c12] at H
           exact absurd H (by simp)
         ·rw [if_neg c11] at H
          exact absurd H (by simp)
     ·replace c4 := Bool.eq_false_iff.mpr c4
      subst c4
      rw [if_neg (show ¬ (false = true) by decide)] at H
      by_cases c18 : a0.toList = ([] : List UInt8)
      ·rw [if_pos c18] at H
       have c18b0 : (a0.toList == ([] : List UInt8)) = true := Qm c18
       have c18b1 : (a0.toList != ([] : List UInt8)) = false := Qh c18
       clear c18
       by_cases c19 : x4_1 ≥ (-2147483648)
       ·rw [if_pos c19] at H
        have c19b0 : decide ((-2147483648) ≤ x4_1) = true := Qj c19
        clear c19
        by_cases c20 : x4_1 < 2147483648
        ·rw [if_pos c20] at H
         have c20b0 : decide (x4_1 < 2147483648) = true := Qj c20
         clear c20
         replace H := Qi H
         obtain ⟨t182, A210, H⟩ := H
         try dsimp only at H
         have A21 := Q4 A210
         clear A210
         simp only [Option.some.injEq, Prod.mk.injEq] at H
         obtain ⟨rfl, rfl⟩ := H
         go_wp2_with (first|(go_at_call 62; (with_reducible refine (curtilageref08_Digits.calls kj1 x4_1 t182 _ A21.out).mono ?_); rintro e w22 ⟨rfl, hb⟩; have n0_ := Q4 (Qg (by repeat (first|(with_reducible first|exact HB.out|apply Q8|apply Q5|apply Q9)|exact HB.out)) hb); clear HB; have HB := n0_; clear n0_;(try clear hb);(try clear hb2);(try clear hk);(try clear hi)))
         go_ret2
         exact ⟨by first|rfl|(simp [errW_none, errW_some] <;> rfl)|(simp [*, errW_none, errW_some] <;> rfl), by repeat (first|(with_reducible first|exact HB.out|apply Q8|apply Q5|apply Q9)|exact HB.out)⟩
        ·rw [if_neg c20] at H
         have c20b0 : decide (x4_1 < 2147483648) = false := decide_eq_false c20
         clear c20
         simp only [Option.some.injEq, Prod.mk.injEq] at H
         obtain ⟨rfl, rfl⟩ := H
         go_wp2
         go_ret2
         exact ⟨by first|rfl|(simp [errW_none, errW_some] <;> rfl)|(simp [*, errW_none, errW_some] <;> rfl), by repeat (first|(with_reducible first|exact HB.out|apply Q8|apply Q5|apply Q9)|exact HB.out)⟩
       ·rw [if_neg c19] at H
        have c19b0 : decide ((-2147483648) ≤ x4_1) = false := decide_eq_false c19
        clear c19
        simp only [Option.some.injEq, Prod.mk.injEq] at H
        obtain ⟨rfl, rfl⟩ := H
        go_wp2
        go_ret2
        exact ⟨by first|rfl|(simp [errW_none, errW_some] <;> rfl)|(simp [*, errW_none, errW_some] <;> rfl), by repeat (first|(with_reducible first|exact HB.out|apply Q8|apply Q5|apply Q9)|exact HB.out)⟩
      ·rw [if_neg c18] at H
       have c18b0 : (a0.toList == ([] : List UInt8)) = false := Qk c18
       have c18b1 : (a0.toList != ([] : List UInt8)) = true := Ql c18
       by_cases c23 : 0 < (a0.size : Int)
       ·rw [if_pos c23] at H
        have c23b0 : decide (0 < (a0.size : Int)) = true := Qj c23
        have c23b1 : decide (0 < a0.size) = true := Qj (by omega)
        clear c23
        by_cases c25 : (bt a0 0) = 45
        ·rw [if_pos c25] at H
         have c25b0 : ((bt a0 0) == 45) = true := Qm c25
         have c25b1 : ((bt a0 0) != 45) = false := Qh c25
         clear c25
         by_cases c26 : (wrap64 (-x4_1)) ≥ (-2147483648)
         ·rw [if_pos c26] at H
          have c26b0 : decide ((-2147483648) ≤ (wrap64 (-x4_1))) = true := Qj c26
          clear c26
          by_cases c27 : (wrap64 (-x4_1)) < 2147483648
          ·rw [if_pos c27] at H
           have c27b0 : decide ((wrap64 (-x4_1)) < 2147483648) = true := Qj c27
           clear c27
           replace H := Qi H
           obtain ⟨t183, A280, H⟩ := H
           try dsimp only at H
           have A28 := Q4 A280
           clear A280
           simp only [Option.some.injEq, Prod.mk.injEq] at H
           obtain ⟨rfl, rfl⟩ := H
           have p24 : 0 ≤ (0 : Int) := (by omega)
           have q24 : 0 < a0.size := (by have : (0 : Int) < (a0.size : Int) := Qc (by first|(with_reducible assumption)|assumption); omega)
           have hx24 : ∀ h : 0 < a0.size, ((a0[0]'h).toNat : Int) = bt a0 0 := bt_at a0 0
           clear p24
           have qi24 : (0 < (a0.size : Int)) = True := eq_true (Qc (by first|(with_reducible assumption)|assumption))
           replace q24 := eq_true q24
           go_wp2_with (first|(go_at_call 62; (with_reducible refine (curtilageref08_Digits.calls kj1 (wrap64 (-x4_1)) t183 _ A28.out).mono ?_); rintro e w29 ⟨rfl, hb⟩; have n0_ := Q4 (Qg (by repeat (first|(with_reducible first|exact HB.out|apply Q8|apply Q5|apply Q9)|exact HB.out)) hb); clear HB; have HB := n0_; clear n0_;(try clear hb);(try clear hb2);(try clear hk);(try clear hi)))
           go_ret2
           exact ⟨by first|rfl|(simp [errW_none, errW_some] <;> rfl)|(simp [*, errW_none, errW_some] <;> rfl), by repeat (first|(with_reducible first|exact HB.out|apply Q8|apply Q5|apply Q9)|exact HB.out)⟩
          ·rw [if_neg c27] at H
           have c27b0 : decide ((wrap64 (-x4_1)) < 2147483648) = false := decide_eq_false c27
           clear c27
           simp only [Option.some.injEq, Prod.mk.injEq] at H
           obtain ⟨rfl, rfl⟩ := H
           have p24 : 0 ≤ (0 : Int) := (by omega)
           have q24 : 0 < a0.size := (by have : (0 : Int) < (a0.size : Int) := Qc (by first|(with_reducible assumption)|assumption); omega)
           have hx24 : ∀ h : 0 < a0.size, ((a0[0]'h).toNat : Int) = bt a0 0 := bt_at a0 0
           clear p24
           have qi24 : (0 < (a0.size : Int)) = True := eq_true (Qc (by first|(with_reducible assumption)|assumption))
           replace q24 := eq_true q24
           go_wp2
           go_ret2
           exact ⟨by first|rfl|(simp [errW_none, errW_some] <;> rfl)|(simp [*, errW_none, errW_some] <;> rfl), by repeat (first|(with_reducible first|exact HB.out|apply Q8|apply Q5|apply Q9)|exact HB.out)⟩
         ·rw [if_neg c26] at H
          have c26b0 : decide ((-2147483648) ≤ (wrap64 (-x4_1))) = false := decide_eq_false c26
          clear c26
          simp only [Option.some.injEq, Prod.mk.injEq] at H
          obtain ⟨rfl, rfl⟩ := H
          have p24 : 0 ≤ (0 : Int) := (by omega)
          have q24 : 0 < a0.size := (by have : (0 : Int) < (a0.size : Int) := Qc (by first|(with_reducible assumption)|assumption); omega)
          have hx24 : ∀ h : 0 < a0.size, ((a0[0]'h).toNat : Int) = bt a0 0 := bt_at a0 0
          clear p24
          have qi24 : (0 < (a0.size : Int)) = True := eq_true (Qc (by first|(with_reducible assumption)|assumption))
          replace q24 := eq_true q24
          go_wp2
          go_ret2
          exact ⟨by first|rfl|(simp [errW_none, errW_some] <;> rfl)|(simp [*, errW_none, errW_some] <;> rfl), by repeat (first|(with_reducible first|exact HB.out|apply Q8|apply Q5|apply Q9)|exact HB.out)⟩
        ·rw [if_neg c25] at H
         have c25b0 : ((bt a0 0) == 45) = false := Qk c25
         have c25b1 : ((bt a0 0) != 45) = true := Ql c25
         by_cases c30 : x4_1 ≥ (-2147483648)
         ·rw [if_pos c30] at H
          have c30b0 : decide ((-2147483648) ≤ x4_1) = true := Qj c30
          clear c30
          by_cases c31 : x4_1 < 2147483648
          ·rw [if_pos c31] at H
           have c31b0 : decide (x4_1 < 2147483648) = true := Qj c31
           clear c31
           replace H := Qi H
           obtain ⟨t184, A320, H⟩ := H
           try dsimp only at H
           have A32 := Q4 A320
           clear A320
           simp only [Option.some.injEq, Prod.mk.injEq] at H
           obtain ⟨rfl, rfl⟩ := H
           have p24 : 0 ≤ (0 : Int) := (by omega)
           have q24 : 0 < a0.size := (by have : (0 : Int) < (a0.size : Int) := Qc (by first|(with_reducible assumption)|assumption); omega)
           have hx24 : ∀ h : 0 < a0.size, ((a0[0]'h).toNat : Int) = bt a0 0 := bt_at a0 0
           clear p24
           have qi24 : (0 < (a0.size : Int)) = True := eq_true (Qc (by first|(with_reducible assumption)|assumption))
           replace q24 := eq_true q24
           go_wp2_with (first|(go_at_call 62; (with_reducible refine (curtilageref08_Digits.calls kj1 x4_1 t184 _ A32.out).mono ?_); rintro e w33 ⟨rfl, hb⟩; have n0_ := Q4 (Qg (by repeat (first|(with_reducible first|exact HB.out|apply Q8|apply Q5|apply Q9)|exact HB.out)) hb); clear HB; have HB := n0_; clear n0_;(try clear hb);(try clear hb2);(try clear hk);(try clear hi)))
           go_ret2
           exact ⟨by first|rfl|(simp [errW_none, errW_some] <;> rfl)|(simp [*, errW_none, errW_some] <;> rfl), by repeat (first|(with_reducible first|exact HB.out|apply Q8|apply Q5|apply Q9)|exact HB.out)⟩
          ·rw [if_neg c31] at H
           have c31b0 : decide (x4_1 < 2147483648) = false := decide_eq_false c31
           clear c31
           simp only [Option.some.injEq, Prod.mk.injEq] at H
           obtain ⟨rfl, rfl⟩ := H
           have p24 : 0 ≤ (0 : Int) := (by omega)
           have q24 : 0 < a0.size := (by have : (0 : Int) < (a0.size : Int) := Qc (by first|(with_reducible assumption)|assumption); omega)
           have hx24 : ∀ h : 0 < a0.size, ((a0[0]'h).toNat : Int) = bt a0 0 := bt_at a0 0
           clear p24
           have qi24 : (0 < (a0.size : Int)) = True := eq_true (Qc (by first|(with_reducible assumption)|assumption))
           replace q24 := eq_true q24
           go_wp2
           go_ret2
           exact ⟨by first|rfl|(simp [errW_none, errW_some] <;> rfl)|(simp [*, errW_none, errW_some] <;> rfl), by repeat (first|(with_reducible first|exact HB.out|apply Q8|apply Q5|apply Q9)|exact HB.out)⟩
         ·rw [if_neg c30] at H
          have c30b0 : decide ((-2147483648) ≤ x4_1) = false := decide_eq_false c30
          clear c30
          simp only [Option.some.injEq, Prod.mk.injEq] at H
          obtain ⟨rfl, rfl⟩ := H
          have p24 : 0 ≤ (0 : Int) := (by omega)
          have q24 : 0 < a0.size := (by have : (0 : Int) < (a0.size : Int) := Qc (by first|(with_reducible assumption)|assumption); omega)
          have hx24 : ∀ h : 0 < a0.size, ((a0[0]'h).toNat : Int) = bt a0 0 := bt_at a0 0
          clear p24
          have qi24 : (0 < (a0.size : Int)) = True := eq_true (Qc (by first|(with_reducible assumption)|assumption))
          replace q24 := eq_true q24
          go_wp2
          go_ret2
          exact ⟨by first|rfl|(simp [errW_none, errW_some] <;> rfl)|(simp [*, errW_none, errW_some] <;> rfl), by repeat (first|(with_reducible first|exact HB.out|apply Q8|apply Q5|apply Q9)|exact HB.out)⟩
       ·rw [if_neg c23] at H
        exact absurd H (by simp)

/-! ### curtilageref10_target: function 37 -/
def curtilageref10_target.l0 : Nat → ByteArray → Int → Option (ByteArray × Int × Bool)
 | 0, _, _ => none
 | k + 1, x0, x5 => if x5 < (x0.size : Int) then (if 0 ≤ x5 then (if (bt x0 x5) = 43 then (if 0 ≤ (wrap64 (x5 + 1)) then (if (wrap64 (x5 + 1)) ≤ (x0.size : Int) then ((curtilageref10_number.f k (x0.extract ((wrap64 (x5 + 1)) : Int).toNat x0.size)).bind fun bt185 => (if x5 ≤ (x0.size : Int) then (some (x0.extract 0 (x5 : Int).toNat, bt185.1, bt185.2)) else (none))) else (none)) else (none)) else (curtilageref10_target.l0 k x0 (wrap64 (x5 + 1)))) else (none)) else (some (x0, 0, true))
def curtilageref10_target.f (k : Nat) (a0 : ByteArray) : Option (ByteArray × Int × Bool) := curtilageref10_target.l0 k a0 0
set_option maxHeartbeats 8000000 in
set_option maxRecDepth 100000 in
theorem curtilageref10_target.calls (k : Nat) (a0 : ByteArray) (r1 : ByteArray) (r2 : Int) (r3 : Bool) (w : World) (h : curtilageref10_target.f k a0 = some (r1, r2, r3)) :
  Calls Tryz.prog 37 #[.string a0] w fun e w' => e = .returned (.tuple #[.string r1, .int .i32 r2, .bool r3]) ∧ Below w.heap.size w w' := by
 have HB := Q4 (Below.refl w.heap.size w)
 have H : (curtilageref10_target.l0 k a0 0) = some (r1, r2, r3) := h
 clear h
 have H' := Q4 H
 clear H
 go_enter Tryz.func37, Tryz.ntmps37
 go_wp2
 go_loopg [5] k (fun kq v5 w' => ∃ (x5_1 : Int), v5 = .int .i64 x5_1 ∧ Aside0 (curtilageref10_target.l0 kq a0 x5_1 = some (r1, r2, r3)) ∧ Aside0 (kq ≤ k) ∧ Aside0 (Below w.heap.size w w'))
 case atStart => exact ⟨(0), (by first|rfl|(simp; done)|(simp [*]; done)), H', ⟨Nat.le_refl _⟩, ⟨by repeat (first|(with_reducible first|exact HB.out|apply Q8|apply Q5|apply Q9)|exact HB.out)⟩⟩
 case round =>
  clear H'
  obtain ⟨x5_1, rfl, HA, HK1, HB⟩ := hrel
  cases gk with
  | zero => exact absurd HA.out (by simp [curtilageref10_target.l0])
  | succ k1 =>
   have H := HA.out
   clear HA
   simp only [curtilageref10_target.l0] at H
   by_cases c2 : x5_1 < (a0.size : Int)
   ·rw [if_pos c2] at H
    have c2b0 : decide (x5_1 < (a0.size : Int)) = true := Qj c2
    clear c2
    by_cases c3 : 0 ≤ x5_1
    ·rw [if_pos c3] at H
     have c3b0 : decide (0 ≤ x5_1) = true := Qj c3
     clear c3
     by_cases c5 : (bt a0 x5_1) = 43
     ·rw [if_pos c5] at H
      have c5b0 : ((bt a0 x5_1) == 43) = true := Qm c5
      have c5b1 : ((bt a0 x5_1) != 43) = false := Qh c5
      clear c5
      obtain ⟨ji6, hji6⟩ : ∃ j_ : Int, (wrap64 (x5_1 + 1)) = j_ := ⟨_, rfl⟩
      replace H : (if 0 ≤ (ji6) then (if (ji6) ≤ (a0.size : Int) then ((curtilageref10_number.f k1 (a0.extract ((ji6) : Int).toNat a0.size)).bind fun bt185 => (if x5_1 ≤ (a0.size : Int) then (some (a0.extract 0 (x5_1 : Int).toNat, bt185.1, bt185.2)) else (none))) else (none)) else (none)) = some (r1, r2, r3) := by first|(rw [hji6] at H; exact H)|(simp only [hji6] at H ⊢; exact H)
      have hji6w : (IntKind.i64.wrap (x5_1 + 1)) = ji6 := (i64_w _).trans hji6
      by_cases c7 : 0 ≤ (ji6)
      ·rw [if_pos c7] at H
       have c7b0 := eq_true c7
       have c7b1 : decide (0 ≤ (ji6)) = true := Qj c7
       clear c7
       by_cases c8 : (ji6) ≤ (a0.size : Int)
       ·rw [if_pos c8] at H
        have c8b0 := eq_true c8
        have c8b1 : decide ((ji6) ≤ (a0.size : Int)) = true := Qj c8
        clear c8
        replace H := Qi H
        obtain ⟨⟨t185, t186⟩, A90, H⟩ := H
        try dsimp only at H
        have A9 := Q4 A90
        clear A90
        have c10b0 := eq_true (Qc (by first|(with_reducible assumption)|assumption) : 0 ≤ x5_1)
        by_cases c11 : x5_1 ≤ (a0.size : Int)
        ·rw [if_pos c11] at H
         have c11b0 := eq_true c11
         have c11b1 : decide (x5_1 ≤ (a0.size : Int)) = true := Qj c11
         clear c11
         simp only [Option.some.injEq, Prod.mk.injEq] at H
         obtain ⟨rfl, rfl, rfl⟩ := H
         have p4 : 0 ≤ (x5_1 : Int) := Qc (by first|(with_reducible assumption)|assumption)
         have q4 : x5_1 < (a0.size : Int) := Qc (by first|(with_reducible assumption)|assumption)
         have hx4 := bt_at a0 x5_1
         replace p4 := eq_true p4
         replace q4 := eq_true q4
         go_wp2_with (first|((with_reducible refine gate_callee (f := 38) rfl ?_); refine goesL_ (some 23) rfl rfl Tryz.func38 (by kernel_rfl) rfl #[.string (a0.extract ((ji6) : Int).toNat a0.size)] rfl (by (try simp only [List.map_toArray, List.map_cons, List.map_nil]); first | done|(simp only [hji6]; rfl)|rfl|(simp only [List.length_drop, List.length_take]; rfl)) ?_; (with_reducible refine (curtilageref10_number.calls k1 (a0.extract ((ji6) : Int).toNat a0.size) t185 t186 _ A9.out).mono ?_); rintro e w12 ⟨rfl, hb⟩; refine ⟨_, rfl, ?_⟩; have n0_ := Q4 (Qg (by repeat (first|(with_reducible first|exact HB.out|apply Q8|apply Q5|apply Q9)|exact HB.out)) hb); clear HB; have HB := n0_; clear n0_;(try clear hb);(try clear hb2);(try clear hk);(try clear hi)))
         go_ret3
         exact ⟨by first|rfl|(simp [errW_none, errW_some] <;> rfl)|(simp only [← hji6]; first|rfl|(simp [errW_none, errW_some] <;> rfl))|(simp [*, errW_none, errW_some] <;> rfl), by repeat (first|(with_reducible first|exact HB.out|apply Q8|apply Q5|apply Q9)|exact HB.out)⟩
        ·rw [if_neg c11] at H
         exact absurd H (by simp)
       ·rw [if_neg c8] at H
        exact absurd H (by simp)
      ·rw [if_neg c7] at H
       exact absurd H (by simp)
     ·rw [if_neg c5] at H
      have c5b0 : ((bt a0 x5_1) == 43) = false := Qk c5
      have c5b1 : ((bt a0 x5_1) != 43) = true := Ql c5
      have H' := Q4 H
      clear H
      have p4 : 0 ≤ (x5_1 : Int) := Qc (by first|(with_reducible assumption)|assumption)
      have q4 : x5_1 < (a0.size : Int) := Qc (by first|(with_reducible assumption)|assumption)
      have hx4 := bt_at a0 x5_1
      replace p4 := eq_true p4
      replace q4 := eq_true q4
      go_wp2
      go_roundg k1
      case measure => have := HK1.out; omega
      case rel => exact ⟨(wrap64 (x5_1 + 1)), (by first|rfl|(simp; done)|(simp [*]; done)), H', ⟨by have := HK1.out; omega⟩, ⟨by repeat (first|(with_reducible first|exact HB.out|apply Q8|apply Q5|apply Q9)|exact HB.out)⟩⟩
    ·rw [if_neg c3] at H
     exact absurd H (by simp)
   ·rw [if_neg c2] at H
    have c2b0 : decide (x5_1 < (a0.size : Int)) = false := decide_eq_false c2
    clear c2
    simp only [Option.some.injEq, Prod.mk.injEq] at H
    obtain ⟨rfl, rfl, rfl⟩ := H
    go_wp2
    go_ret3
    exact ⟨by first|rfl|(simp [errW_none, errW_some] <;> rfl)|(simp [*, errW_none, errW_some] <;> rfl), by repeat (first|(with_reducible first|exact HB.out|apply Q8|apply Q5|apply Q9)|exact HB.out)⟩

/-! ### curtilageref10_line: function 39 -/
def curtilageref10_line.f (k : Nat) (a0_0 : ByteArray) (a0_1 : Int) (a0_2 : Int) (a0_3 : Int) (a0_4 : Int) (a0_5 : Int) (a0_6 : ByteArray) : Option (ByteArray) := if a0_0.toList = ([] : List UInt8) then ((curtilageref08_Text.f k a0_1 a0_2 a0_3 a0_4 a0_5).bind fun t188 => (if a0_6.toList = ([] : List UInt8) then (some t188) else ((curtilageref08_Digits.f k (wrap64 (a0_5))).bind fun t189 => (if 0 ≤ (wrap64 ((t188.size : Int) - (t189.size : Int))) then (if (wrap64 ((t188.size : Int) - (t189.size : Int))) ≤ (t188.size : Int) then (if (t188.extract 0 ((wrap64 ((t188.size : Int) - (t189.size : Int))) : Int).toNat).size + 1 ≤ 9223372036854775807 then (if ((t188.extract 0 ((wrap64 ((t188.size : Int) - (t189.size : Int))) : Int).toNat) ++ (⟨#[64]⟩ : ByteArray)).size + a0_6.size ≤ 9223372036854775807 then (if a0_1 = 1 then (if a0_5 = 0 then (some (((t188.extract 0 ((wrap64 ((t188.size : Int) - (t189.size : Int))) : Int).toNat) ++ (⟨#[64]⟩ : ByteArray)) ++ a0_6)) else (if (((t188.extract 0 ((wrap64 ((t188.size : Int) - (t189.size : Int))) : Int).toNat) ++ (⟨#[64]⟩ : ByteArray)) ++ a0_6).size + 1 ≤ 9223372036854775807 then ((curtilageref08_Digits.f k (wrap64 (a0_5))).bind fun t190 => (if ((((t188.extract 0 ((wrap64 ((t188.size : Int) - (t189.size : Int))) : Int).toNat) ++ (⟨#[64]⟩ : ByteArray)) ++ a0_6) ++ (⟨#[43]⟩ : ByteArray)).size + t190.size ≤ 9223372036854775807 then (some (((((t188.extract 0 ((wrap64 ((t188.size : Int) - (t189.size : Int))) : Int).toNat) ++ (⟨#[64]⟩ : ByteArray)) ++ a0_6) ++ (⟨#[43]⟩ : ByteArray)) ++ t190)) else (none))) else (none))) else (some (((t188.extract 0 ((wrap64 ((t188.size : Int) - (t189.size : Int))) : Int).toNat) ++ (⟨#[64]⟩ : ByteArray)) ++ a0_6))) else (none)) else (none)) else (none)) else (none))))) else (if a0_0.size + 1 ≤ 9223372036854775807 then (some (a0_0 ++ (⟨#[58]⟩ : ByteArray))) else (none))
set_option maxHeartbeats 8000000 in
set_option maxRecDepth 100000 in
theorem curtilageref10_line.calls (k : Nat) (a0_0 : ByteArray) (a0_1 : Int) (a0_2 : Int) (a0_3 : Int) (a0_4 : Int) (a0_5 : Int) (a0_6 : ByteArray) (r : ByteArray) (w : World) (h : curtilageref10_line.f k a0_0 a0_1 a0_2 a0_3 a0_4 a0_5 a0_6 = some r) :
  Calls Tryz.prog 39 #[.agg #[.string a0_0, .int .i64 a0_1, .int .i64 a0_2, .int .i64 a0_3, .int .i64 a0_4, .int .i32 a0_5, .string a0_6]] w fun e w' => e = .returned (.string r) ∧ Below w.heap.size w w' := by
 have hu40 := Tryz.underlying40
 have hu38 := Tryz.underlying38
 have HB := Q4 (Below.refl w.heap.size w)
 have H := h
 unfold curtilageref10_line.f at H
 clear h
 by_cases c2 : a0_0.toList = ([] : List UInt8)
 ·rw [if_pos c2] at H
  have c2b0 : (a0_0.toList == ([] : List UInt8)) = true := Qm c2
  have c2b1 : (a0_0.toList != ([] : List UInt8)) = false := Qh c2
  clear c2
  replace H := Qi H
  obtain ⟨t188, A30, H⟩ := H
  try dsimp only at H
  have A3 := Q4 A30
  clear A30
  by_cases c4 : a0_6.toList = ([] : List UInt8)
  ·rw [if_pos c4] at H
   have c4b0 : (a0_6.toList == ([] : List UInt8)) = true := Qm c4
   have c4b1 : (a0_6.toList != ([] : List UInt8)) = false := Qh c4
   clear c4
   obtain rfl := Qn H
   go_enter Tryz.func39, Tryz.ntmps39
   go_wp2_with (first|((with_reducible refine gate_dst (N := 1) rfl ?_); refine box_event ?hg (N := 1) ?hd (cs := #[.string a0_0, .int .i64 a0_1, .int .i64 a0_2, .int .i64 a0_3, .int .i64 a0_4, .int .i32 a0_5, .string a0_6]) (t := 40) ?hr ?_; (case hd => rfl); (case hg => rfl); (case hr => first|(go_simp; done)|(go_simp; rfl)); intro gb187 hg w5 hbox hb; have n0_ := Q4 (Qg (by repeat (first|(with_reducible first|exact HB.out|apply Q8|apply Q5|apply Q9)|exact HB.out)) hb); have n1_ := Q4 (hbox); have n2_ := Q4 ((by rw [hg]; exact bZ : w.heap.size ≤ gb187)); have n3_ := Q4 ((by rw [hg]; exact bZ : w.heap.size ≤ gb187)); clear HB; have HB := n0_; have BK187 := n1_; have GW187 := n2_; have GE187 := n3_; clear n0_ n1_ n2_ n3_; clear hb hbox hg; have hcz6_0 : w5.cell? ⟨gb187, 0, none⟩ = some (.string a0_0) := (Qe BK187.out 0).trans rfl; have hcz6_1 : w5.cell? ⟨gb187, 1, none⟩ = some (.int .i64 a0_1) := (Qe BK187.out 1).trans rfl; have hcz6_2 : w5.cell? ⟨gb187, 2, none⟩ = some (.int .i64 a0_2) := (Qe BK187.out 2).trans rfl; have hcz6_3 : w5.cell? ⟨gb187, 3, none⟩ = some (.int .i64 a0_3) := (Qe BK187.out 3).trans rfl; have hcz6_4 : w5.cell? ⟨gb187, 4, none⟩ = some (.int .i64 a0_4) := (Qe BK187.out 4).trans rfl; have hcz6_5 : w5.cell? ⟨gb187, 5, none⟩ = some (.int .i32 a0_5) := (Qe BK187.out 5).trans rfl; have hcz6_6 : w5.cell? ⟨gb187, 6, none⟩ = some (.string a0_6) := (Qe BK187.out 6).trans rfl; have hfz6_0 := Qd BK187.out 0; have hfz6_1 := Qd BK187.out 1; have hfz6_2 := Qd BK187.out 2; have hfz6_3 := Qd BK187.out 3; have hfz6_4 := Qd BK187.out 4; have hfz6_5 := Qd BK187.out 5; have hfz6_6 := Qd BK187.out 6)|(go_at_call 34; (with_reducible refine (curtilageref08_Text.calls k a0_1 a0_2 a0_3 a0_4 a0_5 t188 _ A3.out).mono ?_); rintro e w7 ⟨rfl, hb⟩; have n0_ := Q4 (Qo (g := gb187) (o := .cells #[.string a0_0, .int .i64 a0_1, .int .i64 a0_2, .int .i64 a0_3, .int .i64 a0_4, .int .i32 a0_5, .string a0_6] 40 (0, 0)) (bK BK187) hb); have n1_ := Q4 (Qg (by repeat (first|(with_reducible first|exact HB.out|apply Q8|apply Q5|apply Q9|refine Q6 ?_ GE187.out)|exact HB.out)) hb); clear BK187; clear HB; have BK187 := n0_; have HB := n1_; clear n0_ n1_;(try clear hb);(try clear hb2);(try clear hk);(try clear hi); have hcz8_0 : w7.cell? ⟨gb187, 0, none⟩ = some (.string a0_0) := (Qe BK187.out 0).trans rfl; have hcz8_1 : w7.cell? ⟨gb187, 1, none⟩ = some (.int .i64 a0_1) := (Qe BK187.out 1).trans rfl; have hcz8_2 : w7.cell? ⟨gb187, 2, none⟩ = some (.int .i64 a0_2) := (Qe BK187.out 2).trans rfl; have hcz8_3 : w7.cell? ⟨gb187, 3, none⟩ = some (.int .i64 a0_3) := (Qe BK187.out 3).trans rfl; have hcz8_4 : w7.cell? ⟨gb187, 4, none⟩ = some (.int .i64 a0_4) := (Qe BK187.out 4).trans rfl; have hcz8_5 : w7.cell? ⟨gb187, 5, none⟩ = some (.int .i32 a0_5) := (Qe BK187.out 5).trans rfl; have hcz8_6 : w7.cell? ⟨gb187, 6, none⟩ = some (.string a0_6) := (Qe BK187.out 6).trans rfl; have hfz8_0 := Qd BK187.out 0; have hfz8_1 := Qd BK187.out 1; have hfz8_2 := Qd BK187.out 2; have hfz8_3 := Qd BK187.out 3; have hfz8_4 := Qd BK187.out 4; have hfz8_5 := Qd BK187.out 5; have hfz8_6 := Qd BK187.out 6))
   repeat (go_quiet (first|((with_reducible refine gate_dst (N := 1) rfl ?_); refine box_event ?hg (N := 1) ?hd (cs := #[.string a0_0, .int .i64 a0_1, .int .i64 a0_2, .int .i64 a0_3, .int .i64 a0_4, .int .i32 a0_5, .string a0_6]) (t := 40) ?hr ?_; (case hd => rfl); (case hg => rfl); (case hr => first|(go_simp; done)|(go_simp; rfl)); intro gb187 hg w5 hbox hb; have n0_ := Q4 (Qg (by repeat (first|(with_reducible first|exact HB.out|apply Q8|apply Q5|apply Q9)|exact HB.out)) hb); have n1_ := Q4 (hbox); have n2_ := Q4 ((by rw [hg]; exact bZ : w.heap.size ≤ gb187)); have n3_ := Q4 ((by rw [hg]; exact bZ : w.heap.size ≤ gb187)); clear HB; have HB := n0_; have BK187 := n1_; have GW187 := n2_; have GE187 := n3_; clear n0_ n1_ n2_ n3_; clear hb hbox hg; have hcz6_0 : w5.cell? ⟨gb187, 0, none⟩ = some (.string a0_0) := (Qe BK187.out 0).trans rfl; have hcz6_1 : w5.cell? ⟨gb187, 1, none⟩ = some (.int .i64 a0_1) := (Qe BK187.out 1).trans rfl; have hcz6_2 : w5.cell? ⟨gb187, 2, none⟩ = some (.int .i64 a0_2) := (Qe BK187.out 2).trans rfl; have hcz6_3 : w5.cell? ⟨gb187, 3, none⟩ = some (.int .i64 a0_3) := (Qe BK187.out 3).trans rfl; have hcz6_4 : w5.cell? ⟨gb187, 4, none⟩ = some (.int .i64 a0_4) := (Qe BK187.out 4).trans rfl; have hcz6_5 : w5.cell? ⟨gb187, 5, none⟩ = some (.int .i32 a0_5) := (Qe BK187.out 5).trans rfl; have hcz6_6 : w5.cell? ⟨gb187, 6, none⟩ = some (.string a0_6) := (Qe BK187.out 6).trans rfl; have hfz6_0 := Qd BK187.out 0; have hfz6_1 := Qd BK187.out 1; have hfz6_2 := Qd BK187.out 2; have hfz6_3 := Qd BK187.out 3; have hfz6_4 := Qd BK187.out 4; have hfz6_5 := Qd BK187.out 5; have hfz6_6 := Qd BK187.out 6)|(go_at_call 34; (with_reducible refine (curtilageref08_Text.calls k a0_1 a0_2 a0_3 a0_4 a0_5 t188 _ A3.out).mono ?_); rintro e w7 ⟨rfl, hb⟩; have n0_ := Q4 (Qo (g := gb187) (o := .cells #[.string a0_0, .int .i64 a0_1, .int .i64 a0_2, .int .i64 a0_3, .int .i64 a0_4, .int .i32 a0_5, .string a0_6] 40 (0, 0)) (bK BK187) hb); have n1_ := Q4 (Qg (by repeat (first|(with_reducible first|exact HB.out|apply Q8|apply Q5|apply Q9|refine Q6 ?_ GE187.out)|exact HB.out)) hb); clear BK187; clear HB; have BK187 := n0_; have HB := n1_; clear n0_ n1_;(try clear hb);(try clear hb2);(try clear hk);(try clear hi); have hcz8_0 : w7.cell? ⟨gb187, 0, none⟩ = some (.string a0_0) := (Qe BK187.out 0).trans rfl; have hcz8_1 : w7.cell? ⟨gb187, 1, none⟩ = some (.int .i64 a0_1) := (Qe BK187.out 1).trans rfl; have hcz8_2 : w7.cell? ⟨gb187, 2, none⟩ = some (.int .i64 a0_2) := (Qe BK187.out 2).trans rfl; have hcz8_3 : w7.cell? ⟨gb187, 3, none⟩ = some (.int .i64 a0_3) := (Qe BK187.out 3).trans rfl; have hcz8_4 : w7.cell? ⟨gb187, 4, none⟩ = some (.int .i64 a0_4) := (Qe BK187.out 4).trans rfl; have hcz8_5 : w7.cell? ⟨gb187, 5, none⟩ = some (.int .i32 a0_5) := (Qe BK187.out 5).trans rfl; have hcz8_6 : w7.cell? ⟨gb187, 6, none⟩ = some (.string a0_6) := (Qe BK187.out 6).trans rfl; have hfz8_0 := Qd BK187.out 0; have hfz8_1 := Qd BK187.out 1; have hfz8_2 := Qd BK187.out 2; have hfz8_3 := Qd BK187.out 3; have hfz8_4 := Qd BK187.out 4; have hfz8_5 := Qd BK187.out 5; have hfz8_6 := Qd BK187.out 6)); try go_wp2_with (first|((with_reducible refine gate_dst (N := 1) rfl ?_); refine box_event ?hg (N := 1) ?hd (cs := #[.string a0_0, .int .i64 a0_1, .int .i64 a0_2, .int .i64 a0_3, .int .i64 a0_4, .int .i32 a0_5, .string a0_6]) (t := 40) ?hr ?_; (case hd => rfl); (case hg => rfl); (case hr => first|(go_simp; done)|(go_simp; rfl)); intro gb187 hg w5 hbox hb; have n0_ := Q4 (Qg (by repeat (first|(with_reducible first|exact HB.out|apply Q8|apply Q5|apply Q9)|exact HB.out)) hb); have n1_ := Q4 (hbox); have n2_ := Q4 ((by rw [hg]; exact bZ : w.heap.size ≤ gb187)); have n3_ := Q4 ((by rw [hg]; exact bZ : w.heap.size ≤ gb187)); clear HB; have HB := n0_; have BK187 := n1_; have GW187 := n2_; have GE187 := n3_; clear n0_ n1_ n2_ n3_; clear hb hbox hg; have hcz6_0 : w5.cell? ⟨gb187, 0, none⟩ = some (.string a0_0) := (Qe BK187.out 0).trans rfl; have hcz6_1 : w5.cell? ⟨gb187, 1, none⟩ = some (.int .i64 a0_1) := (Qe BK187.out 1).trans rfl; have hcz6_2 : w5.cell? ⟨gb187, 2, none⟩ = some (.int .i64 a0_2) := (Qe BK187.out 2).trans rfl; have hcz6_3 : w5.cell? ⟨gb187, 3, none⟩ = some (.int .i64 a0_3) := (Qe BK187.out 3).trans rfl; have hcz6_4 : w5.cell? ⟨gb187, 4, none⟩ = some (.int .i64 a0_4) := (Qe BK187.out 4).trans rfl; have hcz6_5 : w5.cell? ⟨gb187, 5, none⟩ = some (.int .i32 a0_5) := (Qe BK187.out 5).trans rfl; have hcz6_6 : w5.cell? ⟨gb187, 6, none⟩ = some (.string a0_6) := (Qe BK187.out 6).trans rfl; have hfz6_0 := Qd BK187.out 0; have hfz6_1 := Qd BK187.out 1; have hfz6_2 := Qd BK187.out 2; have hfz6_3 := Qd BK187.out 3; have hfz6_4 := Qd BK187.out 4; have hfz6_5 := Qd BK187.out 5; have hfz6_6 := Qd BK187.out 6)|(go_at_call 34; (with_reducible refine (curtilageref08_Text.calls k a0_1 a0_2 a0_3 a0_4 a0_5 t188 _ A3.out).mono ?_); rintro e w7 ⟨rfl, hb⟩; have n0_ := Q4 (Qo (g := gb187) (o := .cells #[.string a0_0, .int .i64 a0_1, .int .i64 a0_2, .int .i64 a0_3, .int .i64 a0_4, .int .i32 a0_5, .string a0_6] 40 (0, 0)) (bK BK187) hb); have n1_ := Q4 (Qg (by repeat (first|(with_reducible first|exact HB.out|apply Q8|apply Q5|apply Q9|refine Q6 ?_ GE187.out)|exact HB.out)) hb); clear BK187; clear HB; have BK187 := n0_; have HB := n1_; clear n0_ n1_;(try clear hb);(try clear hb2);(try clear hk);(try clear hi); have hcz8_0 : w7.cell? ⟨gb187, 0, none⟩ = some (.string a0_0) := (Qe BK187.out 0).trans rfl; have hcz8_1 : w7.cell? ⟨gb187, 1, none⟩ = some (.int .i64 a0_1) := (Qe BK187.out 1).trans rfl; have hcz8_2 : w7.cell? ⟨gb187, 2, none⟩ = some (.int .i64 a0_2) := (Qe BK187.out 2).trans rfl; have hcz8_3 : w7.cell? ⟨gb187, 3, none⟩ = some (.int .i64 a0_3) := (Qe BK187.out 3).trans rfl; have hcz8_4 : w7.cell? ⟨gb187, 4, none⟩ = some (.int .i64 a0_4) := (Qe BK187.out 4).trans rfl; have hcz8_5 : w7.cell? ⟨gb187, 5, none⟩ = some (.int .i32 a0_5) := (Qe BK187.out 5).trans rfl; have hcz8_6 : w7.cell? ⟨gb187, 6, none⟩ = some (.string a0_6) := (Qe BK187.out 6).trans rfl; have hfz8_0 := Qd BK187.out 0; have hfz8_1 := Qd BK187.out 1; have hfz8_2 := Qd BK187.out 2; have hfz8_3 := Qd BK187.out 3; have hfz8_4 := Qd BK187.out 4; have hfz8_5 := Qd BK187.out 5; have hfz8_6 := Qd BK187.out 6)))
   go_ret
   exact ⟨by first|rfl|(simp [errW_none, errW_some] <;> rfl)|(simp [*, errW_none, errW_some] <;> rfl), by repeat (first|(with_reducible first|exact HB.out|apply Q8|apply Q5|apply Q9|refine Q6 ?_ GE187.out)|exact HB.out)⟩
  ·rw [if_neg c4] at H
   have c4b0 : (a0_6.toList == ([] : List UInt8)) = false := Qk c4
   have c4b1 : (a0_6.toList != ([] : List UInt8)) = true := Ql c4
   replace H := Qi H
   obtain ⟨t189, A90, H⟩ := H
   try dsimp only at H
   have A9 := Q4 A90
   clear A90
   obtain ⟨ji10, hji10⟩ : ∃ j_ : Int, (wrap64 ((t188.size : Int) - (t189.size : Int))) = j_ := ⟨_, rfl⟩
   replace H : (if 0 ≤ (ji10) then (if (ji10) ≤ (t188.size : Int) then (if (t188.extract 0 ((ji10) : Int).toNat).size + 1 ≤ 9223372036854775807 then (if ((t188.extract 0 ((ji10) : Int).toNat) ++ (⟨#[64]⟩ : ByteArray)).size + a0_6.size ≤ 9223372036854775807 then (if a0_1 = 1 then (if a0_5 = 0 then (some (((t188.extract 0 ((ji10) : Int).toNat) ++ (⟨#[64]⟩ : ByteArray)) ++ a0_6)) else (if (((t188.extract 0 ((ji10) : Int).toNat) ++ (⟨#[64]⟩ : ByteArray)) ++ a0_6).size + 1 ≤ 9223372036854775807 then ((curtilageref08_Digits.f k (wrap64 (a0_5))).bind fun t190 => (if ((((t188.extract 0 ((ji10) : Int).toNat) ++ (⟨#[64]⟩ : ByteArray)) ++ a0_6) ++ (⟨#[43]⟩ : ByteArray)).size + t190.size ≤ 9223372036854775807 then (some (((((t188.extract 0 ((ji10) : Int).toNat) ++ (⟨#[64]⟩ : ByteArray)) ++ a0_6) ++ (⟨#[43]⟩ : ByteArray)) ++ t190)) else (none))) else (none))) else (some (((t188.extract 0 ((ji10) : Int).toNat) ++ (⟨#[64]⟩ : ByteArray)) ++ a0_6))) else (none)) else (none)) else (none)) else (none)) = some r := by first|(rw [hji10] at H; exact H)|(simp only [hji10] at H ⊢; exact H)
   obtain ⟨cs, hcs⟩ : ∃ c_ : ByteArray, t188.extract 0 ((ji10) : Int).toNat = c_ := ⟨_, rfl⟩
   rw [hcs] at H
   (try rw [hji10] at A3)
   (try rw [hji10] at A9)
   have hji10w : (IntKind.i64.wrap ((t188.size : Int) - (t189.size : Int))) = ji10 := (i64_w _).trans hji10
   by_cases c11 : 0 ≤ (ji10)
   ·rw [if_pos c11] at H
    have c11b0 := eq_true c11
    have c11b1 : decide (0 ≤ (ji10)) = true := Qj c11
    clear c11
    by_cases c12 : (ji10) ≤ (t188.size : Int)
    ·rw [if_pos c12] at H
     have c12b0 := eq_true c12
     have c12b1 : decide ((ji10) ≤ (t188.size : Int)) = true := Qj c12
     clear c12
     by_cases c13 : cs.size + 1 ≤ 9223372036854775807
     ·rw [if_pos c13] at H
      try have c13z : (9223372036854775807 < cs.size + 1) = False := eq_false (Nat.not_lt.2 (by have h0 := c13; simp only [ByteArray.size_append] at h0; exact h0))
      have c13b0 := eq_true c13
      have c13b1 : decide (cs.size + 1 ≤ 9223372036854775807) = true := Qj c13
      try have c13b2 : (9223372036854775807 < cs.size + 1) = False := eq_false (Nat.not_lt.2 c13)
      by_cases c14 : (cs ++ (⟨#[64]⟩ : ByteArray)).size + a0_6.size ≤ 9223372036854775807
      ·rw [if_pos c14] at H
       try have c14z : (9223372036854775807 < cs.size + 1 + a0_6.size) = False := eq_false (Nat.not_lt.2 (by have h0 := c14; simp only [ByteArray.size_append] at h0; exact h0))
       have c14b0 := eq_true c14
       have c14b1 : decide ((cs ++ (⟨#[64]⟩ : ByteArray)).size + a0_6.size ≤ 9223372036854775807) = true := Qj c14
       try have c14b2 : (9223372036854775807 < (cs ++ (⟨#[64]⟩ : ByteArray)).size + a0_6.size) = False := eq_false (Nat.not_lt.2 c14)
       by_cases c15 : a0_1 = 1
       ·rw [if_pos c15] at H
        have c15b0 : (a0_1 == 1) = true := Qm c15
        have c15b1 : (a0_1 != 1) = false := Qh c15
        clear c15
        by_cases c16 : a0_5 = 0
        ·rw [if_pos c16] at H
         have c16b0 : (a0_5 == 0) = true := Qm c16
         have c16b1 : (a0_5 != 0) = false := Qh c16
         clear c16
         obtain rfl := Qn H
         go_enter Tryz.func39, Tryz.ntmps39
         go_wp2_with (first|((with_reducible refine gate_dst (N := 1) rfl ?_); refine box_event ?hg (N := 1) ?hd (cs := #[.string a0_0, .int .i64 a0_1, .int .i64 a0_2, .int .i64 a0_3, .int .i64 a0_4, .int .i32 a0_5, .string a0_6]) (t := 40) ?hr ?_; (case hd => rfl); (case hg => rfl); (case hr => first|(go_simp; done)|(go_simp; rfl)); intro gb187 hg w17 hbox hb; have n0_ := Q4 (Qg (by repeat (first|(with_reducible first|exact HB.out|apply Q8|apply Q5|apply Q9)|exact HB.out)) hb); have n1_ := Q4 (hbox); have n2_ := Q4 ((by rw [hg]; exact bZ : w.heap.size ≤ gb187)); have n3_ := Q4 ((by rw [hg]; exact bZ : w.heap.size ≤ gb187)); clear HB; have HB := n0_; have BK187 := n1_; have GW187 := n2_; have GE187 := n3_; clear n0_ n1_ n2_ n3_; clear hb hbox hg; have hcz18_0 : w17.cell? ⟨gb187, 0, none⟩ = some (.string a0_0) := (Qe BK187.out 0).trans rfl; have hcz18_1 : w17.cell? ⟨gb187, 1, none⟩ = some (.int .i64 a0_1) := (Qe BK187.out 1).trans rfl; have hcz18_2 : w17.cell? ⟨gb187, 2, none⟩ = some (.int .i64 a0_2) := (Qe BK187.out 2).trans rfl; have hcz18_3 : w17.cell? ⟨gb187, 3, none⟩ = some (.int .i64 a0_3) := (Qe BK187.out 3).trans rfl; have hcz18_4 : w17.cell? ⟨gb187, 4, none⟩ = some (.int .i64 a0_4) := (Qe BK187.out 4).trans rfl; have hcz18_5 : w17.cell? ⟨gb187, 5, none⟩ = some (.int .i32 a0_5) := (Qe BK187.out 5).trans rfl; have hcz18_6 : w17.cell? ⟨gb187, 6, none⟩ = some (.string a0_6) := (Qe BK187.out 6).trans rfl; have hfz18_0 := Qd BK187.out 0; have hfz18_1 := Qd BK187.out 1; have hfz18_2 := Qd BK187.out 2; have hfz18_3 := Qd BK187.out 3; have hfz18_4 := Qd BK187.out 4; have hfz18_5 := Qd BK187.out 5; have hfz18_6 := Qd BK187.out 6)|(go_at_call 34; (with_reducible refine (curtilageref08_Text.calls k a0_1 a0_2 a0_3 a0_4 a0_5 t188 _ A3.out).mono ?_); rintro e w19 ⟨rfl, hb⟩; have n0_ := Q4 (Qo (g := gb187) (o := .cells #[.string a0_0, .int .i64 a0_1, .int .i64 a0_2, .int .i64 a0_3, .int .i64 a0_4, .int .i32 a0_5, .string a0_6] 40 (0, 0)) (bK BK187) hb); have n1_ := Q4 (Qg (by repeat (first|(with_reducible first|exact HB.out|apply Q8|apply Q5|apply Q9|refine Q6 ?_ GE187.out)|exact HB.out)) hb); clear BK187; clear HB; have BK187 := n0_; have HB := n1_; clear n0_ n1_;(try clear hb);(try clear hb2);(try clear hk);(try clear hi); have hcz20_0 : w19.cell? ⟨gb187, 0, none⟩ = some (.string a0_0) := (Qe BK187.out 0).trans rfl; have hcz20_1 : w19.cell? ⟨gb187, 1, none⟩ = some (.int .i64 a0_1) := (Qe BK187.out 1).trans rfl; have hcz20_2 : w19.cell? ⟨gb187, 2, none⟩ = some (.int .i64 a0_2) := (Qe BK187.out 2).trans rfl; have hcz20_3 : w19.cell? ⟨gb187, 3, none⟩ = some (.int .i64 a0_3) := (Qe BK187.out 3).trans rfl; have hcz20_4 : w19.cell? ⟨gb187, 4, none⟩ = some (.int .i64 a0_4) := (Qe BK187.out 4).trans rfl; have hcz20_5 : w19.cell? ⟨gb187, 5, none⟩ = some (.int .i32 a0_5) := (Qe BK187.out 5).trans rfl; have hcz20_6 : w19.cell? ⟨gb187, 6, none⟩ = some (.string a0_6) := (Qe BK187.out 6).trans rfl; have hfz20_0 := Qd BK187.out 0; have hfz20_1 := Qd BK187.out 1; have hfz20_2 := Qd BK187.out 2; have hfz20_3 := Qd BK187.out 3; have hfz20_4 := Qd BK187.out 4; have hfz20_5 := Qd BK187.out 5; have hfz20_6 := Qd BK187.out 6)|(go_at_call 62; (with_reducible refine (curtilageref08_Digits.calls k (wrap64 (a0_5)) t189 _ A9.out).mono ?_); rintro e w21 ⟨rfl, hb⟩; have n0_ := Q4 (Qo (g := gb187) (o := .cells #[.string a0_0, .int .i64 a0_1, .int .i64 a0_2, .int .i64 a0_3, .int .i64 a0_4, .int .i32 a0_5, .string a0_6] 40 (0, 0)) (bK BK187) hb); have n1_ := Q4 (Qg (by repeat (first|(with_reducible first|exact HB.out|apply Q8|apply Q5|apply Q9|refine Q6 ?_ GE187.out)|exact HB.out)) hb); clear BK187; clear HB; have BK187 := n0_; have HB := n1_; clear n0_ n1_;(try clear hb);(try clear hb2);(try clear hk);(try clear hi); have hcz22_0 : w21.cell? ⟨gb187, 0, none⟩ = some (.string a0_0) := (Qe BK187.out 0).trans rfl; have hcz22_1 : w21.cell? ⟨gb187, 1, none⟩ = some (.int .i64 a0_1) := (Qe BK187.out 1).trans rfl; have hcz22_2 : w21.cell? ⟨gb187, 2, none⟩ = some (.int .i64 a0_2) := (Qe BK187.out 2).trans rfl; have hcz22_3 : w21.cell? ⟨gb187, 3, none⟩ = some (.int .i64 a0_3) := (Qe BK187.out 3).trans rfl; have hcz22_4 : w21.cell? ⟨gb187, 4, none⟩ = some (.int .i64 a0_4) := (Qe BK187.out 4).trans rfl; have hcz22_5 : w21.cell? ⟨gb187, 5, none⟩ = some (.int .i32 a0_5) := (Qe BK187.out 5).trans rfl; have hcz22_6 : w21.cell? ⟨gb187, 6, none⟩ = some (.string a0_6) := (Qe BK187.out 6).trans rfl; have hfz22_0 := Qd BK187.out 0; have hfz22_1 := Qd BK187.out 1; have hfz22_2 := Qd BK187.out 2; have hfz22_3 := Qd BK187.out 3; have hfz22_4 := Qd BK187.out 4; have hfz22_5 := Qd BK187.out 5; have hfz22_6 := Qd BK187.out 6))
         repeat (go_quiet (first|((with_reducible refine gate_dst (N := 1) rfl ?_); refine box_event ?hg (N := 1) ?hd (cs := #[.string a0_0, .int .i64 a0_1, .int .i64 a0_2, .int .i64 a0_3, .int .i64 a0_4, .int .i32 a0_5, .string a0_6]) (t := 40) ?hr ?_; (case hd => rfl); (case hg => rfl); (case hr => first|(go_simp; done)|(go_simp; rfl)); intro gb187 hg w17 hbox hb; have n0_ := Q4 (Qg (by repeat (first|(with_reducible first|exact HB.out|apply Q8|apply Q5|apply Q9)|exact HB.out)) hb); have n1_ := Q4 (hbox); have n2_ := Q4 ((by rw [hg]; exact bZ : w.heap.size ≤ gb187)); have n3_ := Q4 ((by rw [hg]; exact bZ : w.heap.size ≤ gb187)); clear HB; have HB := n0_; have BK187 := n1_; have GW187 := n2_; have GE187 := n3_; clear n0_ n1_ n2_ n3_; clear hb hbox hg; have hcz18_0 : w17.cell? ⟨gb187, 0, none⟩ = some (.string a0_0) := (Qe BK187.out 0).trans rfl; have hcz18_1 : w17.cell? ⟨gb187, 1, none⟩ = some (.int .i64 a0_1) := (Qe BK187.out 1).trans rfl; have hcz18_2 : w17.cell? ⟨gb187, 2, none⟩ = some (.int .i64 a0_2) := (Qe BK187.out 2).trans rfl; have hcz18_3 : w17.cell? ⟨gb187, 3, none⟩ = some (.int .i64 a0_3) := (Qe BK187.out 3).trans rfl; have hcz18_4 : w17.cell? ⟨gb187, 4, none⟩ = some (.int .i64 a0_4) := (Qe BK187.out 4).trans rfl; have hcz18_5 : w17.cell? ⟨gb187, 5, none⟩ = some (.int .i32 a0_5) := (Qe BK187.out 5).trans rfl; have hcz18_6 : w17.cell? ⟨gb187, 6, none⟩ = some (.string a0_6) := (Qe BK187.out 6).trans rfl; have hfz18_0 := Qd BK187.out 0; have hfz18_1 := Qd BK187.out 1; have hfz18_2 := Qd BK187.out 2; have hfz18_3 := Qd BK187.out 3; have hfz18_4 := Qd BK187.out 4; have hfz18_5 := Qd BK187.out 5; have hfz18_6 := Qd BK187.out 6)|(go_at_call 34; (with_reducible refine (curtilageref08_Text.calls k a0_1 a0_2 a0_3 a0_4 a0_5 t188 _ A3.out).mono ?_); rintro e w19 ⟨rfl, hb⟩; have n0_ := Q4 (Qo (g := gb187) (o := .cells #[.string a0_0, .int .i64 a0_1, .int .i64 a0_2, .int .i64 a0_3, .int .i64 a0_4, .int .i32 a0_5, .string a0_6] 40 (0, 0)) (bK BK187) hb); have n1_ := Q4 (Qg (by repeat (first|(with_reducible first|exact HB.out|apply Q8|apply Q5|apply Q9|refine Q6 ?_ GE187.out)|exact HB.out)) hb); clear BK187; clear HB; have BK187 := n0_; have HB := n1_; clear n0_ n1_;(try clear hb);(try clear hb2);(try clear hk);(try clear hi); have hcz20_0 : w19.cell? ⟨gb187, 0, none⟩ = some (.string a0_0) := (Qe BK187.out 0).trans rfl; have hcz20_1 : w19.cell? ⟨gb187, 1, none⟩ = some (.int .i64 a0_1) := (Qe BK187.out 1).trans rfl; have hcz20_2 : w19.cell? ⟨gb187, 2, none⟩ = some (.int .i64 a0_2) := (Qe BK187.out 2).trans rfl; have hcz20_3 : w19.cell? ⟨gb187, 3, none⟩ = some (.int .i64 a0_3) := (Qe BK187.out 3).trans rfl; have hcz20_4 : w19.cell? ⟨gb187, 4, none⟩ = some (.int .i64 a0_4) := (Qe BK187.out 4).trans rfl; have hcz20_5 : w19.cell? ⟨gb187, 5, none⟩ = some (.int .i32 a0_5) := (Qe BK187.out 5).trans rfl; have hcz20_6 : w19.cell? ⟨gb187, 6, none⟩ = some (.string a0_6) := (Qe BK187.out 6).trans rfl; have hfz20_0 := Qd BK187.out 0; have hfz20_1 := Qd BK187.out 1; have hfz20_2 := Qd BK187.out 2; have hfz20_3 := Qd BK187.out 3; have hfz20_4 := Qd BK187.out 4; have hfz20_5 := Qd BK187.out 5; have hfz20_6 := Qd BK187.out 6)|(go_at_call 62; (with_reducible refine (curtilageref08_Digits.calls k (wrap64 (a0_5)) t189 _ A9.out).mono ?_); rintro e w21 ⟨rfl, hb⟩; have n0_ := Q4 (Qo (g := gb187) (o := .cells #[.string a0_0, .int .i64 a0_1, .int .i64 a0_2, .int .i64 a0_3, .int .i64 a0_4, .int .i32 a0_5, .string a0_6] 40 (0, 0)) (bK BK187) hb); have n1_ := Q4 (Qg (by repeat (first|(with_reducible first|exact HB.out|apply Q8|apply Q5|apply Q9|refine Q6 ?_ GE187.out)|exact HB.out)) hb); clear BK187; clear HB; have BK187 := n0_; have HB := n1_; clear n0_ n1_;(try clear hb);(try clear hb2);(try clear hk);(try clear hi); have hcz22_0 : w21.cell? ⟨gb187, 0, none⟩ = some (.string a0_0) := (Qe BK187.out 0).trans rfl; have hcz22_1 : w21.cell? ⟨gb187, 1, none⟩ = some (.int .i64 a0_1) := (Qe BK187.out 1).trans rfl; have hcz22_2 : w21.cell? ⟨gb187, 2, none⟩ = some (.int .i64 a0_2) := (Qe BK187.out 2).trans rfl; have hcz22_3 : w21.cell? ⟨gb187, 3, none⟩ = some (.int .i64 a0_3) := (Qe BK187.out 3).trans rfl; have hcz22_4 : w21.cell? ⟨gb187, 4, none⟩ = some (.int .i64 a0_4) := (Qe BK187.out 4).trans rfl; have hcz22_5 : w21.cell? ⟨gb187, 5, none⟩ = some (.int .i32 a0_5) := (Qe BK187.out 5).trans rfl; have hcz22_6 : w21.cell? ⟨gb187, 6, none⟩ = some (.string a0_6) := (Qe BK187.out 6).trans rfl; have hfz22_0 := Qd BK187.out 0; have hfz22_1 := Qd BK187.out 1; have hfz22_2 := Qd BK187.out 2; have hfz22_3 := Qd BK187.out 3; have hfz22_4 := Qd BK187.out 4; have hfz22_5 := Qd BK187.out 5; have hfz22_6 := Qd BK187.out 6)); try go_wp2_with (first|((with_reducible refine gate_dst (N := 1) rfl ?_); refine box_event ?hg (N := 1) ?hd (cs := #[.string a0_0, .int .i64 a0_1, .int .i64 a0_2, .int .i64 a0_3, .int .i64 a0_4, .int .i32 a0_5, .string a0_6]) (t := 40) ?hr ?_; (case hd => rfl); (case hg => rfl); (case hr => first|(go_simp; done)|(go_simp; rfl)); intro gb187 hg w17 hbox hb; have n0_ := Q4 (Qg (by repeat (first|(with_reducible first|exact HB.out|apply Q8|apply Q5|apply Q9)|exact HB.out)) hb); have n1_ := Q4 (hbox); have n2_ := Q4 ((by rw [hg]; exact bZ : w.heap.size ≤ gb187)); have n3_ := Q4 ((by rw [hg]; exact bZ : w.heap.size ≤ gb187)); clear HB; have HB := n0_; have BK187 := n1_; have GW187 := n2_; have GE187 := n3_; clear n0_ n1_ n2_ n3_; clear hb hbox hg; have hcz18_0 : w17.cell? ⟨gb187, 0, none⟩ = some (.string a0_0) := (Qe BK187.out 0).trans rfl; have hcz18_1 : w17.cell? ⟨gb187, 1, none⟩ = some (.int .i64 a0_1) := (Qe BK187.out 1).trans rfl; have hcz18_2 : w17.cell? ⟨gb187, 2, none⟩ = some (.int .i64 a0_2) := (Qe BK187.out 2).trans rfl; have hcz18_3 : w17.cell? ⟨gb187, 3, none⟩ = some (.int .i64 a0_3) := (Qe BK187.out 3).trans rfl; have hcz18_4 : w17.cell? ⟨gb187, 4, none⟩ = some (.int .i64 a0_4) := (Qe BK187.out 4).trans rfl; have hcz18_5 : w17.cell? ⟨gb187, 5, none⟩ = some (.int .i32 a0_5) := (Qe BK187.out 5).trans rfl; have hcz18_6 : w17.cell? ⟨gb187, 6, none⟩ = some (.string a0_6) := (Qe BK187.out 6).trans rfl; have hfz18_0 := Qd BK187.out 0; have hfz18_1 := Qd BK187.out 1; have hfz18_2 := Qd BK187.out 2; have hfz18_3 := Qd BK187.out 3; have hfz18_4 := Qd BK187.out 4; have hfz18_5 := Qd BK187.out 5; have hfz18_6 := Qd BK187.out 6)|(go_at_call 34; (with_reducible refine (curtilageref08_Text.calls k a0_1 a0_2 a0_3 a0_4 a0_5 t188 _ A3.out).mono ?_); rintro e w19 ⟨rfl, hb⟩; have n0_ := Q4 (Qo (g := gb187) (o := .cells #[.string a0_0, .int .i64 a0_1, .int .i64 a0_2, .int .i64 a0_3, .int .i64 a0_4, .int .i32 a0_5, .string a0_6] 40 (0, 0)) (bK BK187) hb); have n1_ := Q4 (Qg (by repeat (first|(with_reducible first|exact HB.out|apply Q8|apply Q5|apply Q9|refine Q6 ?_ GE187.out)|exact HB.out)) hb); clear BK187; clear HB; have BK187 := n0_; have HB := n1_; clear n0_ n1_;(try clear hb);(try clear hb2);(try clear hk);(try clear hi); have hcz20_0 : w19.cell? ⟨gb187, 0, none⟩ = some (.string a0_0) := (Qe BK187.out 0).trans rfl; have hcz20_1 : w19.cell? ⟨gb187, 1, none⟩ = some (.int .i64 a0_1) := (Qe BK187.out 1).trans rfl; have hcz20_2 : w19.cell? ⟨gb187, 2, none⟩ = some (.int .i64 a0_2) := (Qe BK187.out 2).trans rfl; have hcz20_3 : w19.cell? ⟨gb187, 3, none⟩ = some (.int .i64 a0_3) := (Qe BK187.out 3).trans rfl; have hcz20_4 : w19.cell? ⟨gb187, 4, none⟩ = some (.int .i64 a0_4) := (Qe BK187.out 4).trans rfl; have hcz20_5 : w19.cell? ⟨gb187, 5, none⟩ = some (.int .i32 a0_5) := (Qe BK187.out 5).trans rfl; have hcz20_6 : w19.cell? ⟨gb187, 6, none⟩ = some (.string a0_6) := (Qe BK187.out 6).trans rfl; have hfz20_0 := Qd BK187.out 0; have hfz20_1 := Qd BK187.out 1; have hfz20_2 := Qd BK187.out 2; have hfz20_3 := Qd BK187.out 3; have hfz20_4 := Qd BK187.out 4; have hfz20_5 := Qd BK187.out 5; have hfz20_6 := Qd BK187.out 6)|(go_at_call 62; (with_reducible refine (curtilageref08_Digits.calls k (wrap64 (a0_5)) t189 _ A9.out).mono ?_); rintro e w21 ⟨rfl, hb⟩; have n0_ := Q4 (Qo (g := gb187) (o := .cells #[.string a0_0, .int .i64 a0_1, .int .i64 a0_2, .int .i64 a0_3, .int .i64 a0_4, .int .i32 a0_5, .string a0_6] 40 (0, 0)) (bK BK187) hb); have n1_ := Q4 (Qg (by repeat (first|(with_reducible first|exact HB.out|apply Q8|apply Q5|apply Q9|refine Q6 ?_ GE187.out)|exact HB.out)) hb); clear BK187; clear HB; have BK187 := n0_; have HB := n1_; clear n0_ n1_;(try clear hb);(try clear hb2);(try clear hk);(try clear hi); have hcz22_0 : w21.cell? ⟨gb187, 0, none⟩ = some (.string a0_0) := (Qe BK187.out 0).trans rfl; have hcz22_1 : w21.cell? ⟨gb187, 1, none⟩ = some (.int .i64 a0_1) := (Qe BK187.out 1).trans rfl; have hcz22_2 : w21.cell? ⟨gb187, 2, none⟩ = some (.int .i64 a0_2) := (Qe BK187.out 2).trans rfl; have hcz22_3 : w21.cell? ⟨gb187, 3, none⟩ = some (.int .i64 a0_3) := (Qe BK187.out 3).trans rfl; have hcz22_4 : w21.cell? ⟨gb187, 4, none⟩ = some (.int .i64 a0_4) := (Qe BK187.out 4).trans rfl; have hcz22_5 : w21.cell? ⟨gb187, 5, none⟩ = some (.int .i32 a0_5) := (Qe BK187.out 5).trans rfl; have hcz22_6 : w21.cell? ⟨gb187, 6, none⟩ = some (.string a0_6) := (Qe BK187.out 6).trans rfl; have hfz22_0 := Qd BK187.out 0; have hfz22_1 := Qd BK187.out 1; have hfz22_2 := Qd BK187.out 2; have hfz22_3 := Qd BK187.out 3; have hfz22_4 := Qd BK187.out 4; have hfz22_5 := Qd BK187.out 5; have hfz22_6 := Qd BK187.out 6)))
         go_ret
         exact ⟨by first|rfl|(simp [errW_none, errW_some] <;> rfl)|(simp only [← hji10]; first|rfl|(simp [errW_none, errW_some] <;> rfl))|(simp [*, errW_none, errW_some] <;> rfl), by repeat (first|(with_reducible first|exact HB.out|apply Q8|apply Q5|apply Q9|refine Q6 ?_ GE187.out)|exact HB.out)⟩
        ·rw [if_neg c16] at H
         have c16b0 : (a0_5 == 0) = false := Qk c16
         have c16b1 : (a0_5 != 0) = true := Ql c16
         by_cases c23 : ((cs ++ (⟨#[64]⟩ : ByteArray)) ++ a0_6).size + 1 ≤ 9223372036854775807
         ·rw [if_pos c23] at H
          try have c23z : (9223372036854775807 < cs.size + 1 + a0_6.size + 1) = False := eq_false (Nat.not_lt.2 (by have h0 := c23; simp only [ByteArray.size_append] at h0; exact h0))
          have c23b0 := eq_true c23
          have c23b1 : decide (((cs ++ (⟨#[64]⟩ : ByteArray)) ++ a0_6).size + 1 ≤ 9223372036854775807) = true := Qj c23
          try have c23b2 : (9223372036854775807 < ((cs ++ (⟨#[64]⟩ : ByteArray)) ++ a0_6).size + 1) = False := eq_false (Nat.not_lt.2 c23)
          replace H := Qi H
          obtain ⟨t190, A240, H⟩ := H
          have e190 : t189 = t190 := Qn (A9.out.symm.trans A240)
          subst e190
          try dsimp only at H
          have A24 := Q4 A240
          clear A240
          by_cases c25 : (((cs ++ (⟨#[64]⟩ : ByteArray)) ++ a0_6) ++ (⟨#[43]⟩ : ByteArray)).size + t189.size ≤ 9223372036854775807
          ·rw [if_pos c25] at H
           try have c25z : (9223372036854775807 < cs.size + 1 + a0_6.size + 1 + t189.size) = False := eq_false (Nat.not_lt.2 (by have h0 := c25; simp only [ByteArray.size_append] at h0; exact h0))
           have c25b0 := eq_true c25
           have c25b1 : decide ((((cs ++ (⟨#[64]⟩ : ByteArray)) ++ a0_6) ++ (⟨#[43]⟩ : ByteArray)).size + t189.size ≤ 9223372036854775807) = true := Qj c25
           try have c25b2 : (9223372036854775807 < (((cs ++ (⟨#[64]⟩ : ByteArray)) ++ a0_6) ++ (⟨#[43]⟩ : ByteArray)).size + t189.size) = False := eq_false (Nat.not_lt.2 c25)
           obtain rfl := Qn H
           go_enter Tryz.func39, Tryz.ntmps39
           go_wp2_with (first|((with_reducible refine gate_dst (N := 1) rfl ?_); refine box_event ?hg (N := 1) ?hd (cs := #[.string a0_0, .int .i64 a0_1, .int .i64 a0_2, .int .i64 a0_3, .int .i64 a0_4, .int .i32 a0_5, .string a0_6]) (t := 40) ?hr ?_; (case hd => rfl); (case hg => rfl); (case hr => first|(go_simp; done)|(go_simp; rfl)); intro gb187 hg w26 hbox hb; have n0_ := Q4 (Qg (by repeat (first|(with_reducible first|exact HB.out|apply Q8|apply Q5|apply Q9)|exact HB.out)) hb); have n1_ := Q4 (hbox); have n2_ := Q4 ((by rw [hg]; exact bZ : w.heap.size ≤ gb187)); have n3_ := Q4 ((by rw [hg]; exact bZ : w.heap.size ≤ gb187)); clear HB; have HB := n0_; have BK187 := n1_; have GW187 := n2_; have GE187 := n3_; clear n0_ n1_ n2_ n3_; clear hb hbox hg; have hcz27_0 : w26.cell? ⟨gb187, 0, none⟩ = some (.string a0_0) := (Qe BK187.out 0).trans rfl; have hcz27_1 : w26.cell? ⟨gb187, 1, none⟩ = some (.int .i64 a0_1) := (Qe BK187.out 1).trans rfl; have hcz27_2 : w26.cell? ⟨gb187, 2, none⟩ = some (.int .i64 a0_2) := (Qe BK187.out 2).trans rfl; have hcz27_3 : w26.cell? ⟨gb187, 3, none⟩ = some (.int .i64 a0_3) := (Qe BK187.out 3).trans rfl; have hcz27_4 : w26.cell? ⟨gb187, 4, none⟩ = some (.int .i64 a0_4) := (Qe BK187.out 4).trans rfl; have hcz27_5 : w26.cell? ⟨gb187, 5, none⟩ = some (.int .i32 a0_5) := (Qe BK187.out 5).trans rfl; have hcz27_6 : w26.cell? ⟨gb187, 6, none⟩ = some (.string a0_6) := (Qe BK187.out 6).trans rfl; have hfz27_0 := Qd BK187.out 0; have hfz27_1 := Qd BK187.out 1; have hfz27_2 := Qd BK187.out 2; have hfz27_3 := Qd BK187.out 3; have hfz27_4 := Qd BK187.out 4; have hfz27_5 := Qd BK187.out 5; have hfz27_6 := Qd BK187.out 6)|(go_at_call 34; (with_reducible refine (curtilageref08_Text.calls k a0_1 a0_2 a0_3 a0_4 a0_5 t188 _ A3.out).mono ?_); rintro e w28 ⟨rfl, hb⟩; have n0_ := Q4 (Qo (g := gb187) (o := .cells #[.string a0_0, .int .i64 a0_1, .int .i64 a0_2, .int .i64 a0_3, .int .i64 a0_4, .int .i32 a0_5, .string a0_6] 40 (0, 0)) (bK BK187) hb); have n1_ := Q4 (Qg (by repeat (first|(with_reducible first|exact HB.out|apply Q8|apply Q5|apply Q9|refine Q6 ?_ GE187.out)|exact HB.out)) hb); clear BK187; clear HB; have BK187 := n0_; have HB := n1_; clear n0_ n1_;(try clear hb);(try clear hb2);(try clear hk);(try clear hi); have hcz29_0 : w28.cell? ⟨gb187, 0, none⟩ = some (.string a0_0) := (Qe BK187.out 0).trans rfl; have hcz29_1 : w28.cell? ⟨gb187, 1, none⟩ = some (.int .i64 a0_1) := (Qe BK187.out 1).trans rfl; have hcz29_2 : w28.cell? ⟨gb187, 2, none⟩ = some (.int .i64 a0_2) := (Qe BK187.out 2).trans rfl; have hcz29_3 : w28.cell? ⟨gb187, 3, none⟩ = some (.int .i64 a0_3) := (Qe BK187.out 3).trans rfl; have hcz29_4 : w28.cell? ⟨gb187, 4, none⟩ = some (.int .i64 a0_4) := (Qe BK187.out 4).trans rfl; have hcz29_5 : w28.cell? ⟨gb187, 5, none⟩ = some (.int .i32 a0_5) := (Qe BK187.out 5).trans rfl; have hcz29_6 : w28.cell? ⟨gb187, 6, none⟩ = some (.string a0_6) := (Qe BK187.out 6).trans rfl; have hfz29_0 := Qd BK187.out 0; have hfz29_1 := Qd BK187.out 1; have hfz29_2 := Qd BK187.out 2; have hfz29_3 := Qd BK187.out 3; have hfz29_4 := Qd BK187.out 4; have hfz29_5 := Qd BK187.out 5; have hfz29_6 := Qd BK187.out 6)|(go_at_call 62; (with_reducible refine (curtilageref08_Digits.calls k (wrap64 (a0_5)) t189 _ A9.out).mono ?_); rintro e w30 ⟨rfl, hb⟩; have n0_ := Q4 (Qo (g := gb187) (o := .cells #[.string a0_0, .int .i64 a0_1, .int .i64 a0_2, .int .i64 a0_3, .int .i64 a0_4, .int .i32 a0_5, .string a0_6] 40 (0, 0)) (bK BK187) hb); have n1_ := Q4 (Qg (by repeat (first|(with_reducible first|exact HB.out|apply Q8|apply Q5|apply Q9|refine Q6 ?_ GE187.out)|exact HB.out)) hb); clear BK187; clear HB; have BK187 := n0_; have HB := n1_; clear n0_ n1_;(try clear hb);(try clear hb2);(try clear hk);(try clear hi); have hcz31_0 : w30.cell? ⟨gb187, 0, none⟩ = some (.string a0_0) := (Qe BK187.out 0).trans rfl; have hcz31_1 : w30.cell? ⟨gb187, 1, none⟩ = some (.int .i64 a0_1) := (Qe BK187.out 1).trans rfl; have hcz31_2 : w30.cell? ⟨gb187, 2, none⟩ = some (.int .i64 a0_2) := (Qe BK187.out 2).trans rfl; have hcz31_3 : w30.cell? ⟨gb187, 3, none⟩ = some (.int .i64 a0_3) := (Qe BK187.out 3).trans rfl; have hcz31_4 : w30.cell? ⟨gb187, 4, none⟩ = some (.int .i64 a0_4) := (Qe BK187.out 4).trans rfl; have hcz31_5 : w30.cell? ⟨gb187, 5, none⟩ = some (.int .i32 a0_5) := (Qe BK187.out 5).trans rfl; have hcz31_6 : w30.cell? ⟨gb187, 6, none⟩ = some (.string a0_6) := (Qe BK187.out 6).trans rfl; have hfz31_0 := Qd BK187.out 0; have hfz31_1 := Qd BK187.out 1; have hfz31_2 := Qd BK187.out 2; have hfz31_3 := Qd BK187.out 3; have hfz31_4 := Qd BK187.out 4; have hfz31_5 := Qd BK187.out 5; have hfz31_6 := Qd BK187.out 6)|(go_at_call 62; (with_reducible refine (curtilageref08_Digits.calls k (wrap64 (a0_5)) t189 _ A24.out).mono ?_); rintro e w32 ⟨rfl, hb⟩; have n0_ := Q4 (Qo (g := gb187) (o := .cells #[.string a0_0, .int .i64 a0_1, .int .i64 a0_2, .int .i64 a0_3, .int .i64 a0_4, .int .i32 a0_5, .string a0_6] 40 (0, 0)) (bK BK187) hb); have n1_ := Q4 (Qg (by repeat (first|(with_reducible first|exact HB.out|apply Q8|apply Q5|apply Q9|refine Q6 ?_ GE187.out)|exact HB.out)) hb); clear BK187; clear HB; have BK187 := n0_; have HB := n1_; clear n0_ n1_;(try clear hb);(try clear hb2);(try clear hk);(try clear hi)))
           repeat (go_quiet (first|((with_reducible refine gate_dst (N := 1) rfl ?_); refine box_event ?hg (N := 1) ?hd (cs := #[.string a0_0, .int .i64 a0_1, .int .i64 a0_2, .int .i64 a0_3, .int .i64 a0_4, .int .i32 a0_5, .string a0_6]) (t := 40) ?hr ?_; (case hd => rfl); (case hg => rfl); (case hr => first|(go_simp; done)|(go_simp; rfl)); intro gb187 hg w26 hbox hb; have n0_ := Q4 (Qg (by repeat (first|(with_reducible first|exact HB.out|apply Q8|apply Q5|apply Q9)|exact HB.out)) hb); have n1_ := Q4 (hbox); have n2_ := Q4 ((by rw [hg]; exact bZ : w.heap.size ≤ gb187)); have n3_ := Q4 ((by rw [hg]; exact bZ : w.heap.size ≤ gb187)); clear HB; have HB := n0_; have BK187 := n1_; have GW187 := n2_; have GE187 := n3_; clear n0_ n1_ n2_ n3_; clear hb hbox hg; have hcz27_0 : w26.cell? ⟨gb187, 0, none⟩ = some (.string a0_0) := (Qe BK187.out 0).trans rfl; have hcz27_1 : w26.cell? ⟨gb187, 1, none⟩ = some (.int .i64 a0_1) := (Qe BK187.out 1).trans rfl; have hcz27_2 : w26.cell? ⟨gb187, 2, none⟩ = some (.int .i64 a0_2) := (Qe BK187.out 2).trans rfl; have hcz27_3 : w26.cell? ⟨gb187, 3, none⟩ = some (.int .i64 a0_3) := (Qe BK187.out 3).trans rfl; have hcz27_4 : w26.cell? ⟨gb187, 4, none⟩ = some (.int .i64 a0_4) := (Qe BK187.out 4).trans rfl; have hcz27_5 : w26.cell? ⟨gb187, 5, none⟩ = some (.int .i32 a0_5) := (Qe BK187.out 5).trans rfl; have hcz27_6 : w26.cell? ⟨gb187, 6, none⟩ = some (.string a0_6) := (Qe BK187.out 6).trans rfl; have hfz27_0 := Qd BK187.out 0; have hfz27_1 := Qd BK187.out 1; have hfz27_2 := Qd BK187.out 2; have hfz27_3 := Qd BK187.out 3; have hfz27_4 := Qd BK187.out 4; have hfz27_5 := Qd BK187.out 5; have hfz27_6 := Qd BK187.out 6)|(go_at_call 34; (with_reducible refine (curtilageref08_Text.calls k a0_1 a0_2 a0_3 a0_4 a0_5 t188 _ A3.out).mono ?_); rintro e w28 ⟨rfl, hb⟩; have n0_ := Q4 (Qo (g := gb187) (o := .cells #[.string a0_0, .int .i64 a0_1, .int .i64 a0_2, .int .i64 a0_3, .int .i64 a0_4, .int .i32 a0_5, .string a0_6] 40 (0, 0)) (bK BK187) hb); have n1_ := Q4 (Qg (by repeat (first|(with_reducible first|exact HB.out|apply Q8|apply Q5|apply Q9|refine Q6 ?_ GE187.out)|exact HB.out)) hb); clear BK187; clear HB; have BK187 := n0_; have HB := n1_; clear n0_ n1_;(try clear hb);(try clear hb2);(try clear hk);(try clear hi); have hcz29_0 : w28.cell? ⟨gb187, 0, none⟩ = some (.string a0_0) := (Qe BK187.out 0).trans rfl; have hcz29_1 : w28.cell? ⟨gb187, 1, none⟩ = some (.int .i64 a0_1) := (Qe BK187.out 1).trans rfl; have hcz29_2 : w28.cell? ⟨gb187, 2, none⟩ = some (.int .i64 a0_2) := (Qe BK187.out 2).trans rfl; have hcz29_3 : w28.cell? ⟨gb187, 3, none⟩ = some (.int .i64 a0_3) := (Qe BK187.out 3).trans rfl; have hcz29_4 : w28.cell? ⟨gb187, 4, none⟩ = some (.int .i64 a0_4) := (Qe BK187.out 4).trans rfl; have hcz29_5 : w28.cell? ⟨gb187, 5, none⟩ = some (.int .i32 a0_5) := (Qe BK187.out 5).trans rfl; have hcz29_6 : w28.cell? ⟨gb187, 6, none⟩ = some (.string a0_6) := (Qe BK187.out 6).trans rfl; have hfz29_0 := Qd BK187.out 0; have hfz29_1 := Qd BK187.out 1; have hfz29_2 := Qd BK187.out 2; have hfz29_3 := Qd BK187.out 3; have hfz29_4 := Qd BK187.out 4; have hfz29_5 := Qd BK187.out 5; have hfz29_6 := Qd BK187.out 6)|(go_at_call 62; (with_reducible refine (curtilageref08_Digits.calls k (wrap64 (a0_5)) t189 _ A9.out).mono ?_); rintro e w30 ⟨rfl, hb⟩; have n0_ := Q4 (Qo (g := gb187) (o := .cells #[.string a0_0, .int .i64 a0_1, .int .i64 a0_2, .int .i64 a0_3, .int .i64 a0_4, .int .i32 a0_5, .string a0_6] 40 (0, 0)) (bK BK187) hb); have n1_ := Q4 (Qg (by repeat (first|(with_reducible first|exact HB.out|apply Q8|apply Q5|apply Q9|refine Q6 ?_ GE187.out)|exact HB.out)) hb); clear BK187; clear HB; have BK187 := n0_; have HB := n1_; clear n0_ n1_;(try clear hb);(try clear hb2);(try clear hk);(try clear hi); have hcz31_0 : w30.cell? ⟨gb187, 0, none⟩ = some (.string a0_0) := (Qe BK187.out 0).trans rfl; have hcz31_1 : w30.cell? ⟨gb187, 1, none⟩ = some (.int .i64 a0_1) := (Qe BK187.out 1).trans rfl; have hcz31_2 : w30.cell? ⟨gb187, 2, none⟩ = some (.int .i64 a0_2) := (Qe BK187.out 2).trans rfl; have hcz31_3 : w30.cell? ⟨gb187, 3, none⟩ = some (.int .i64 a0_3) := (Qe BK187.out 3).trans rfl; have hcz31_4 : w30.cell? ⟨gb187, 4, none⟩ = some (.int .i64 a0_4) := (Qe BK187.out 4).trans rfl; have hcz31_5 : w30.cell? ⟨gb187, 5, none⟩ = some (.int .i32 a0_5) := (Qe BK187.out 5).trans rfl; have hcz31_6 : w30.cell? ⟨gb187, 6, none⟩ = some (.string a0_6) := (Qe BK187.out 6).trans rfl; have hfz31_0 := Qd BK187.out 0; have hfz31_1 := Qd BK187.out 1; have hfz31_2 := Qd BK187.out 2; have hfz31_3 := Qd BK187.out 3; have hfz31_4 := Qd BK187.out 4; have hfz31_5 := Qd BK187.out 5; have hfz31_6 := Qd BK187.out 6)|(go_at_call 62; (with_reducible refine (curtilageref08_Digits.calls k (wrap64 (a0_5)) t189 _ A24.out).mono ?_); rintro e w32 ⟨rfl, hb⟩; have n0_ := Q4 (Qo (g := gb187) (o := .cells #[.string a0_0, .int .i64 a0_1, .int .i64 a0_2, .int .i64 a0_3, .int .i64 a0_4, .int .i32 a0_5, .string a0_6] 40 (0, 0)) (bK BK187) hb); have n1_ := Q4 (Qg (by repeat (first|(with_reducible first|exact HB.out|apply Q8|apply Q5|apply Q9|refine Q6 ?_ GE187.out)|exact HB.out)) hb); clear BK187; clear HB; have BK187 := n0_; have HB := n1_; clear n0_ n1_;(try clear hb);(try clear hb2);(try clear hk);(try clear hi))); try go_wp2_with (first|((with_reducible refine gate_dst (N := 1) rfl ?_); refine box_event ?hg (N := 1) ?hd (cs := #[.string a0_0, .int .i64 a0_1, .int .i64 a0_2, .int .i64 a0_3, .int .i64 a0_4, .int .i32 a0_5, .string a0_6]) (t := 40) ?hr ?_; (case hd => rfl); (case hg => rfl); (case hr => first|(go_simp; done)|(go_simp; rfl)); intro gb187 hg w26 hbox hb; have n0_ := Q4 (Qg (by repeat (first|(with_reducible first|exact HB.out|apply Q8|apply Q5|apply Q9)|exact HB.out)) hb); have n1_ := Q4 (hbox); have n2_ := Q4 ((by rw [hg]; exact bZ : w.heap.size ≤ gb187)); have n3_ := Q4 ((by rw [hg]; exact bZ : w.heap.size ≤ gb187)); clear HB; have HB := n0_; have BK187 := n1_; have GW187 := n2_; have GE187 := n3_; clear n0_ n1_ n2_ n3_; clear hb hbox hg; have hcz27_0 : w26.cell? ⟨gb187, 0, none⟩ = some (.string a0_0) := (Qe BK187.out 0).trans rfl; have hcz27_1 : w26.cell? ⟨gb187, 1, none⟩ = some (.int .i64 a0_1) := (Qe BK187.out 1).trans rfl; have hcz27_2 : w26.cell? ⟨gb187, 2, none⟩ = some (.int .i64 a0_2) := (Qe BK187.out 2).trans rfl; have hcz27_3 : w26.cell? ⟨gb187, 3, none⟩ = some (.int .i64 a0_3) := (Qe BK187.out 3).trans rfl; have hcz27_4 : w26.cell? ⟨gb187, 4, none⟩ = some (.int .i64 a0_4) := (Qe BK187.out 4).trans rfl; have hcz27_5 : w26.cell? ⟨gb187, 5, none⟩ = some (.int .i32 a0_5) := (Qe BK187.out 5).trans rfl; have hcz27_6 : w26.cell? ⟨gb187, 6, none⟩ = some (.string a0_6) := (Qe BK187.out 6).trans rfl; have hfz27_0 := Qd BK187.out 0; have hfz27_1 := Qd BK187.out 1; have hfz27_2 := Qd BK187.out 2; have hfz27_3 := Qd BK187.out 3; have hfz27_4 := Qd BK187.out 4; have hfz27_5 := Qd BK187.out 5; have hfz27_6 := Qd BK187.out 6)|(go_at_call 34; (with_reducible refine (curtilageref08_Text.calls k a0_1 a0_2 a0_3 a0_4 a0_5 t188 _ A3.out).mono ?_); rintro e w28 ⟨rfl, hb⟩; have n0_ := Q4 (Qo (g := gb187) (o := .cells #[.string a0_0, .int .i64 a0_1, .int .i64 a0_2, .int .i64 a0_3, .int .i64 a0_4, .int .i32 a0_5, .string a0_6] 40 (0, 0)) (bK BK187) hb); have n1_ := Q4 (Qg (by repeat (first|(with_reducible first|exact HB.out|apply Q8|apply Q5|apply Q9|refine Q6 ?_ GE187.out)|exact HB.out)) hb); clear BK187; clear HB; have BK187 := n0_; have HB := n1_; clear n0_ n1_;(try clear hb);(try clear hb2);(try clear hk);(try clear hi); have hcz29_0 : w28.cell? ⟨gb187, 0, none⟩ = some (.string a0_0) := (Qe BK187.out 0).trans rfl; have hcz29_1 : w28.cell? ⟨gb187, 1, none⟩ = some (.int .i64 a0_1) := (Qe BK187.out 1).trans rfl; have hcz29_2 : w28.cell? ⟨gb187, 2, none⟩ = some (.int .i64 a0_2) := (Qe BK187.out 2).trans rfl; have hcz29_3 : w28.cell? ⟨gb187, 3, none⟩ = some (.int .i64 a0_3) := (Qe BK187.out 3).trans rfl; have hcz29_4 : w28.cell? ⟨gb187, 4, none⟩ = some (.int .i64 a0_4) := (Qe BK187.out 4).trans rfl; have hcz29_5 : w28.cell? ⟨gb187, 5, none⟩ = some (.int .i32 a0_5) := (Qe BK187.out 5).trans rfl; have hcz29_6 : w28.cell? ⟨gb187, 6, none⟩ = some (.string a0_6) := (Qe BK187.out 6).trans rfl; have hfz29_0 := Qd BK187.out 0; have hfz29_1 := Qd BK187.out 1; have hfz29_2 := Qd BK187.out 2; have hfz29_3 := Qd BK187.out 3; have hfz29_4 := Qd BK187.out 4; have hfz29_5 := Qd BK187.out 5; have hfz29_6 := Qd BK187.out 6)|(go_at_call 62; (with_reducible refine (curtilageref08_Digits.calls k (wrap64 (a0_5)) t189 _ A9.out).mono ?_); rintro e w30 ⟨rfl, hb⟩; have n0_ := Q4 (Qo (g := gb187) (o := .cells #[.string a0_0, .int .i64 a0_1, .int .i64 a0_2, .int .i64 a0_3, .int .i64 a0_4, .int .i32 a0_5, .string a0_6] 40 (0, 0)) (bK BK187) hb); have n1_ := Q4 (Qg (by repeat (first|(with_reducible first|exact HB.out|apply Q8|apply Q5|apply Q9|refine Q6 ?_ GE187.out)|exact HB.out)) hb); clear BK187; clear HB; have BK187 := n0_; have HB := n1_; clear n0_ n1_;(try clear hb);(try clear hb2);(try clear hk);(try clear hi); have hcz31_0 : w30.cell? ⟨gb187, 0, none⟩ = some (.string a0_0) := (Qe BK187.out 0).trans rfl; have hcz31_1 : w30.cell? ⟨gb187, 1, none⟩ = some (.int .i64 a0_1) := (Qe BK187.out 1).trans rfl; have hcz31_2 : w30.cell? ⟨gb187, 2, none⟩ = some (.int .i64 a0_2) := (Qe BK187.out 2).trans rfl; have hcz31_3 : w30.cell? ⟨gb187, 3, none⟩ = some (.int .i64 a0_3) := (Qe BK187.out 3).trans rfl; have hcz31_4 : w30.cell? ⟨gb187, 4, none⟩ = some (.int .i64 a0_4) := (Qe BK187.out 4).trans rfl; have hcz31_5 : w30.cell? ⟨gb187, 5, none⟩ = some (.int .i32 a0_5) := (Qe BK187.out 5).trans rfl; have hcz31_6 : w30.cell? ⟨gb187, 6, none⟩ = some (.string a0_6) := (Qe BK187.out 6).trans rfl; have hfz31_0 := Qd BK187.out 0; have hfz31_1 := Qd BK187.out 1; have hfz31_2 := Qd BK187.out 2; have hfz31_3 := Qd BK187.out 3; have hfz31_4 := Qd BK187.out 4; have hfz31_5 := Qd BK187.out 5; have hfz31_6 := Qd BK187.out 6)|(go_at_call 62; (with_reducible refine (curtilageref08_Digits.calls k (wrap64 (a0_5)) t189 _ A24.out).mono ?_); rintro e w32 ⟨rfl, hb⟩; have n0_ := Q4 (Qo (g := gb187) (o := .cells #[.string a0_0, .int .i64 a0_1, .int .i64 a0_2, .int .i64 a0_3, .int .i64 a0_4, .int .i32 a0_5, .string a0_6] 40 (0, 0)) (bK BK187) hb); have n1_ := Q4 (Qg (by repeat (first|(with_reducible first|exact HB.out|apply Q8|apply Q5|apply Q9|refine Q6 ?_ GE187.out)|exact HB.out)) hb); clear BK187; clear HB; have BK187 := n0_; have HB := n1_; clear n0_ n1_;(try clear hb);(try clear hb2);(try clear hk);(try clear hi))))
           go_ret
           exact ⟨by first|rfl|(simp [errW_none, errW_some] <;> rfl)|(simp only [← hji10]; first|rfl|(simp [errW_none, errW_some] <;> rfl))|(simp [*, errW_none, errW_some] <;> rfl), by repeat (first|(with_reducible first|exact HB.out|apply Q8|apply Q5|apply Q9|refine Q6 ?_ GE187.out)|exact HB.out)⟩
          ·rw [if_neg c25] at H
           exact absurd H (by simp)
         ·rw [if_neg c23] at H
          exact absurd H (by simp)
       ·rw [if_neg c15] at H
        have c15b0 : (a0_1 == 1) = false := Qk c15
        have c15b1 : (a0_1 != 1) = true := Ql c15
        obtain rfl := Qn H
        go_enter Tryz.func39, Tryz.ntmps39
        go_wp2_with (first|((with_reducible refine gate_dst (N := 1) rfl ?_); refine box_event ?hg (N := 1) ?hd (cs := #[.string a0_0, .int .i64 a0_1, .int .i64 a0_2, .int .i64 a0_3, .int .i64 a0_4, .int .i32 a0_5, .string a0_6]) (t := 40) ?hr ?_; (case hd => rfl); (case hg => rfl); (case hr => first|(go_simp; done)|(go_simp; rfl)); intro gb187 hg w33 hbox hb; have n0_ := Q4 (Qg (by repeat (first|(with_reducible first|exact HB.out|apply Q8|apply Q5|apply Q9)|exact HB.out)) hb); have n1_ := Q4 (hbox); have n2_ := Q4 ((by rw [hg]; exact bZ : w.heap.size ≤ gb187)); have n3_ := Q4 ((by rw [hg]; exact bZ : w.heap.size ≤ gb187)); clear HB; have HB := n0_; have BK187 := n1_; have GW187 := n2_; have GE187 := n3_; clear n0_ n1_ n2_ n3_; clear hb hbox hg; have hcz34_0 : w33.cell? ⟨gb187, 0, none⟩ = some (.string a0_0) := (Qe BK187.out 0).trans rfl; have hcz34_1 : w33.cell? ⟨gb187, 1, none⟩ = some (.int .i64 a0_1) := (Qe BK187.out 1).trans rfl; have hcz34_2 : w33.cell? ⟨gb187, 2, none⟩ = some (.int .i64 a0_2) := (Qe BK187.out 2).trans rfl; have hcz34_3 : w33.cell? ⟨gb187, 3, none⟩ = some (.int .i64 a0_3) := (Qe BK187.out 3).trans rfl; have hcz34_4 : w33.cell? ⟨gb187, 4, none⟩ = some (.int .i64 a0_4) := (Qe BK187.out 4).trans rfl; have hcz34_5 : w33.cell? ⟨gb187, 5, none⟩ = some (.int .i32 a0_5) := (Qe BK187.out 5).trans rfl; have hcz34_6 : w33.cell? ⟨gb187, 6, none⟩ = some (.string a0_6) := (Qe BK187.out 6).trans rfl; have hfz34_0 := Qd BK187.out 0; have hfz34_1 := Qd BK187.out 1; have hfz34_2 := Qd BK187.out 2; have hfz34_3 := Qd BK187.out 3; have hfz34_4 := Qd BK187.out 4; have hfz34_5 := Qd BK187.out 5; have hfz34_6 := Qd BK187.out 6)|(go_at_call 34; (with_reducible refine (curtilageref08_Text.calls k a0_1 a0_2 a0_3 a0_4 a0_5 t188 _ A3.out).mono ?_); rintro e w35 ⟨rfl, hb⟩; have n0_ := Q4 (Qo (g := gb187) (o := .cells #[.string a0_0, .int .i64 a0_1, .int .i64 a0_2, .int .i64 a0_3, .int .i64 a0_4, .int .i32 a0_5, .string a0_6] 40 (0, 0)) (bK BK187) hb); have n1_ := Q4 (Qg (by repeat (first|(with_reducible first|exact HB.out|apply Q8|apply Q5|apply Q9|refine Q6 ?_ GE187.out)|exact HB.out)) hb); clear BK187; clear HB; have BK187 := n0_; have HB := n1_; clear n0_ n1_;(try clear hb);(try clear hb2);(try clear hk);(try clear hi); have hcz36_0 : w35.cell? ⟨gb187, 0, none⟩ = some (.string a0_0) := (Qe BK187.out 0).trans rfl; have hcz36_1 : w35.cell? ⟨gb187, 1, none⟩ = some (.int .i64 a0_1) := (Qe BK187.out 1).trans rfl; have hcz36_2 : w35.cell? ⟨gb187, 2, none⟩ = some (.int .i64 a0_2) := (Qe BK187.out 2).trans rfl; have hcz36_3 : w35.cell? ⟨gb187, 3, none⟩ = some (.int .i64 a0_3) := (Qe BK187.out 3).trans rfl; have hcz36_4 : w35.cell? ⟨gb187, 4, none⟩ = some (.int .i64 a0_4) := (Qe BK187.out 4).trans rfl; have hcz36_5 : w35.cell? ⟨gb187, 5, none⟩ = some (.int .i32 a0_5) := (Qe BK187.out 5).trans rfl; have hcz36_6 : w35.cell? ⟨gb187, 6, none⟩ = some (.string a0_6) := (Qe BK187.out 6).trans rfl; have hfz36_0 := Qd BK187.out 0; have hfz36_1 := Qd BK187.out 1; have hfz36_2 := Qd BK187.out 2; have hfz36_3 := Qd BK187.out 3; have hfz36_4 := Qd BK187.out 4; have hfz36_5 := Qd BK187.out 5; have hfz36_6 := Qd BK187.out 6)|(go_at_call 62; (with_reducible refine (curtilageref08_Digits.calls k (wrap64 (a0_5)) t189 _ A9.out).mono ?_); rintro e w37 ⟨rfl, hb⟩; have n0_ := Q4 (Qo (g := gb187) (o := .cells #[.string a0_0, .int .i64 a0_1, .int .i64 a0_2, .int .i64 a0_3, .int .i64 a0_4, .int .i32 a0_5, .string a0_6] 40 (0, 0)) (bK BK187) hb); have n1_ := Q4 (Qg (by repeat (first|(with_reducible first|exact HB.out|apply Q8|apply Q5|apply Q9|refine Q6 ?_ GE187.out)|exact HB.out)) hb); clear BK187; clear HB; have BK187 := n0_; have HB := n1_; clear n0_ n1_;(try clear hb);(try clear hb2);(try clear hk);(try clear hi); have hcz38_0 : w37.cell? ⟨gb187, 0, none⟩ = some (.string a0_0) := (Qe BK187.out 0).trans rfl; have hcz38_1 : w37.cell? ⟨gb187, 1, none⟩ = some (.int .i64 a0_1) := (Qe BK187.out 1).trans rfl; have hcz38_2 : w37.cell? ⟨gb187, 2, none⟩ = some (.int .i64 a0_2) := (Qe BK187.out 2).trans rfl; have hcz38_3 : w37.cell? ⟨gb187, 3, none⟩ = some (.int .i64 a0_3) := (Qe BK187.out 3).trans rfl; have hcz38_4 : w37.cell? ⟨gb187, 4, none⟩ = some (.int .i64 a0_4) := (Qe BK187.out 4).trans rfl; have hcz38_5 : w37.cell? ⟨gb187, 5, none⟩ = some (.int .i32 a0_5) := (Qe BK187.out 5).trans rfl; have hcz38_6 : w37.cell? ⟨gb187, 6, none⟩ = some (.string a0_6) := (Qe BK187.out 6).trans rfl; have hfz38_0 := Qd BK187.out 0; have hfz38_1 := Qd BK187.out 1; have hfz38_2 := Qd BK187.out 2; have hfz38_3 := Qd BK187.out 3; have hfz38_4 := Qd BK187.out 4; have hfz38_5 := Qd BK187.out 5; have hfz38_6 := Qd BK187.out 6))
        repeat (go_quiet (first|((with_reducible refine gate_dst (N := 1) rfl ?_); refine box_event ?hg (N := 1) ?hd (cs := #[.string a0_0, .int .i64 a0_1, .int .i64 a0_2, .int .i64 a0_3, .int .i64 a0_4, .int .i32 a0_5, .string a0_6]) (t := 40) ?hr ?_; (case hd => rfl); (case hg => rfl); (case hr => first|(go_simp; done)|(go_simp; rfl)); intro gb187 hg w33 hbox hb; have n0_ := Q4 (Qg (by repeat (first|(with_reducible first|exact HB.out|apply Q8|apply Q5|apply Q9)|exact HB.out)) hb); have n1_ := Q4 (hbox); have n2_ := Q4 ((by rw [hg]; exact bZ : w.heap.size ≤ gb187)); have n3_ := Q4 ((by rw [hg]; exact bZ : w.heap.size ≤ gb187)); clear HB; have HB := n0_; have BK187 := n1_; have GW187 := n2_; have GE187 := n3_; clear n0_ n1_ n2_ n3_; clear hb hbox hg; have hcz34_0 : w33.cell? ⟨gb187, 0, none⟩ = some (.string a0_0) := (Qe BK187.out 0).trans rfl; have hcz34_1 : w33.cell? ⟨gb187, 1, none⟩ = some (.int .i64 a0_1) := (Qe BK187.out 1).trans rfl; have hcz34_2 : w33.cell? ⟨gb187, 2, none⟩ = some (.int .i64 a0_2) := (Qe BK187.out 2).trans rfl; have hcz34_3 : w33.cell? ⟨gb187, 3, none⟩ = some (.int .i64 a0_3) := (Qe BK187.out 3).trans rfl; have hcz34_4 : w33.cell? ⟨gb187, 4, none⟩ = some (.int .i64 a0_4) := (Qe BK187.out 4).trans rfl; have hcz34_5 : w33.cell? ⟨gb187, 5, none⟩ = some (.int .i32 a0_5) := (Qe BK187.out 5).trans rfl; have hcz34_6 : w33.cell? ⟨gb187, 6, none⟩ = some (.string a0_6) := (Qe BK187.out 6).trans rfl; have hfz34_0 := Qd BK187.out 0; have hfz34_1 := Qd BK187.out 1; have hfz34_2 := Qd BK187.out 2; have hfz34_3 := Qd BK187.out 3; have hfz34_4 := Qd BK187.out 4; have hfz34_5 := Qd BK187.out 5; have hfz34_6 := Qd BK187.out 6)|(go_at_call 34; (with_reducible refine (curtilageref08_Text.calls k a0_1 a0_2 a0_3 a0_4 a0_5 t188 _ A3.out).mono ?_); rintro e w35 ⟨rfl, hb⟩; have n0_ := Q4 (Qo (g := gb187) (o := .cells #[.string a0_0, .int .i64 a0_1, .int .i64 a0_2, .int .i64 a0_3, .int .i64 a0_4, .int .i32 a0_5, .string a0_6] 40 (0, 0)) (bK BK187) hb); have n1_ := Q4 (Qg (by repeat (first|(with_reducible first|exact HB.out|apply Q8|apply Q5|apply Q9|refine Q6 ?_ GE187.out)|exact HB.out)) hb); clear BK187; clear HB; have BK187 := n0_; have HB := n1_; clear n0_ n1_;(try clear hb);(try clear hb2);(try clear hk);(try clear hi); have hcz36_0 : w35.cell? ⟨gb187, 0, none⟩ = some (.string a0_0) := (Qe BK187.out 0).trans rfl; have hcz36_1 : w35.cell? ⟨gb187, 1, none⟩ = some (.int .i64 a0_1) := (Qe BK187.out 1).trans rfl; have hcz36_2 : w35.cell? ⟨gb187, 2, none⟩ = some (.int .i64 a0_2) := (Qe BK187.out 2).trans rfl; have hcz36_3 : w35.cell? ⟨gb187, 3, none⟩ = some (.int .i64 a0_3) := (Qe BK187.out 3).trans rfl; have hcz36_4 : w35.cell? ⟨gb187, 4, none⟩ = some (.int .i64 a0_4) := (Qe BK187.out 4).trans rfl; have hcz36_5 : w35.cell? ⟨gb187, 5, none⟩ = some (.int .i32 a0_5) := (Qe BK187.out 5).trans rfl; have hcz36_6 : w35.cell? ⟨gb187, 6, none⟩ = some (.string a0_6) := (Qe BK187.out 6).trans rfl; have hfz36_0 := Qd BK187.out 0; have hfz36_1 := Qd BK187.out 1; have hfz36_2 := Qd BK187.out 2; have hfz36_3 := Qd BK187.out 3; have hfz36_4 := Qd BK187.out 4; have hfz36_5 := Qd BK187.out 5; have hfz36_6 := Qd BK187.out 6)|(go_at_call 62; (with_reducible refine (curtilageref08_Digits.calls k (wrap64 (a0_5)) t189 _ A9.out).mono ?_); rintro e w37 ⟨rfl, hb⟩; have n0_ := Q4 (Qo (g := gb187) (o := .cells #[.string a0_0, .int .i64 a0_1, .int .i64 a0_2, .int .i64 a0_3, .int .i64 a0_4, .int .i32 a0_5, .string a0_6] 40 (0, 0)) (bK BK187) hb); have n1_ := Q4 (Qg (by repeat (first|(with_reducible first|exact HB.out|apply Q8|apply Q5|apply Q9|refine Q6 ?_ GE187.out)|exact HB.out)) hb); clear BK187; clear HB; have BK187 := n0_; have HB := n1_; clear n0_ n1_;(try clear hb);(try clear hb2);(try clear hk);(try clear hi); have hcz38_0 : w37.cell? ⟨gb187, 0, none⟩ = some (.string a0_0) := (Qe BK187.out 0).trans rfl; have hcz38_1 : w37.cell? ⟨gb187, 1, none⟩ = some (.int .i64 a0_1) := (Qe BK187.out 1).trans rfl; have hcz38_2 : w37.cell? ⟨gb187, 2, none⟩ = some (.int .i64 a0_2) := (Qe BK187.out 2).trans rfl; have hcz38_3 : w37.cell? ⟨gb187, 3, none⟩ = some (.int .i64 a0_3) := (Qe BK187.out 3).trans rfl; have hcz38_4 : w37.cell? ⟨gb187, 4, none⟩ = some (.int .i64 a0_4) := (Qe BK187.out 4).trans rfl; have hcz38_5 : w37.cell? ⟨gb187, 5, none⟩ = some (.int .i32 a0_5) := (Qe BK187.out 5).trans rfl; have hcz38_6 : w37.cell? ⟨gb187, 6, none⟩ = some (.string a0_6) := (Qe BK187.out 6).trans rfl; have hfz38_0 := Qd BK187.out 0; have hfz38_1 := Qd BK187.out 1; have hfz38_2 := Qd BK187.out 2; have hfz38_3 := Qd BK187.out 3; have hfz38_4 := Qd BK187.out 4; have hfz38_5 := Qd BK187.out 5; have hfz38_6 := Qd BK187.out 6)); try go_wp2_with (first|((with_reducible refine gate_dst (N := 1) rfl ?_); refine box_event ?hg (N := 1) ?hd (cs := #[.string a0_0, .int .i64 a0_1, .int .i64 a0_2, .int .i64 a0_3, .int .i64 a0_4, .int .i32 a0_5, .string a0_6]) (t := 40) ?hr ?_; (case hd => rfl); (case hg => rfl); (case hr => first|(go_simp; done)|(go_simp; rfl)); intro gb187 hg w33 hbox hb; have n0_ := Q4 (Qg (by repeat (first|(with_reducible first|exact HB.out|apply Q8|apply Q5|apply Q9)|exact HB.out)) hb); have n1_ := Q4 (hbox); have n2_ := Q4 ((by rw [hg]; exact bZ : w.heap.size ≤ gb187)); have n3_ := Q4 ((by rw [hg]; exact bZ : w.heap.size ≤ gb187)); clear HB; have HB := n0_; have BK187 := n1_; have GW187 := n2_; have GE187 := n3_; clear n0_ n1_ n2_ n3_; clear hb hbox hg; have hcz34_0 : w33.cell? ⟨gb187, 0, none⟩ = some (.string a0_0) := (Qe BK187.out 0).trans rfl; have hcz34_1 : w33.cell? ⟨gb187, 1, none⟩ = some (.int .i64 a0_1) := (Qe BK187.out 1).trans rfl; have hcz34_2 : w33.cell? ⟨gb187, 2, none⟩ = some (.int .i64 a0_2) := (Qe BK187.out 2).trans rfl; have hcz34_3 : w33.cell? ⟨gb187, 3, none⟩ = some (.int .i64 a0_3) := (Qe BK187.out 3).trans rfl; have hcz34_4 : w33.cell? ⟨gb187, 4, none⟩ = some (.int .i64 a0_4) := (Qe BK187.out 4).trans rfl; have hcz34_5 : w33.cell? ⟨gb187, 5, none⟩ = some (.int .i32 a0_5) := (Qe BK187.out 5).trans rfl; have hcz34_6 : w33.cell? ⟨gb187, 6, none⟩ = some (.string a0_6) := (Qe BK187.out 6).trans rfl; have hfz34_0 := Qd BK187.out 0; have hfz34_1 := Qd BK187.out 1; have hfz34_2 := Qd BK187.out 2; have hfz34_3 := Qd BK187.out 3; have hfz34_4 := Qd BK187.out 4; have hfz34_5 := Qd BK187.out 5; have hfz34_6 := Qd BK187.out 6)|(go_at_call 34; (with_reducible refine (curtilageref08_Text.calls k a0_1 a0_2 a0_3 a0_4 a0_5 t188 _ A3.out).mono ?_); rintro e w35 ⟨rfl, hb⟩; have n0_ := Q4 (Qo (g := gb187) (o := .cells #[.string a0_0, .int .i64 a0_1, .int .i64 a0_2, .int .i64 a0_3, .int .i64 a0_4, .int .i32 a0_5, .string a0_6] 40 (0, 0)) (bK BK187) hb); have n1_ := Q4 (Qg (by repeat (first|(with_reducible first|exact HB.out|apply Q8|apply Q5|apply Q9|refine Q6 ?_ GE187.out)|exact HB.out)) hb); clear BK187; clear HB; have BK187 := n0_; have HB := n1_; clear n0_ n1_;(try clear hb);(try clear hb2);(try clear hk);(try clear hi); have hcz36_0 : w35.cell? ⟨gb187, 0, none⟩ = some (.string a0_0) := (Qe BK187.out 0).trans rfl; have hcz36_1 : w35.cell? ⟨gb187, 1, none⟩ = some (.int .i64 a0_1) := (Qe BK187.out 1).trans rfl; have hcz36_2 : w35.cell? ⟨gb187, 2, none⟩ = some (.int .i64 a0_2) := (Qe BK187.out 2).trans rfl; have hcz36_3 : w35.cell? ⟨gb187, 3, none⟩ = some (.int .i64 a0_3) := (Qe BK187.out 3).trans rfl; have hcz36_4 : w35.cell? ⟨gb187, 4, none⟩ = some (.int .i64 a0_4) := (Qe BK187.out 4).trans rfl; have hcz36_5 : w35.cell? ⟨gb187, 5, none⟩ = some (.int .i32 a0_5) := (Qe BK187.out 5).trans rfl; have hcz36_6 : w35.cell? ⟨gb187, 6, none⟩ = some (.string a0_6) := (Qe BK187.out 6).trans rfl; have hfz36_0 := Qd BK187.out 0; have hfz36_1 := Qd BK187.out 1; have hfz36_2 := Qd BK187.out 2; have hfz36_3 := Qd BK187.out 3; have hfz36_4 := Qd BK187.out 4; have hfz36_5 := Qd BK187.out 5; have hfz36_6 := Qd BK187.out 6)|(go_at_call 62; (with_reducible refine (curtilageref08_Digits.calls k (wrap64 (a0_5)) t189 _ A9.out).mono ?_); rintro e w37 ⟨rfl, hb⟩; have n0_ := Q4 (Qo (g := gb187) (o := .cells #[.string a0_0, .int .i64 a0_1, .int .i64 a0_2, .int .i64 a0_3, .int .i64 a0_4, .int .i32 a0_5, .string a0_6] 40 (0, 0)) (bK BK187) hb); have n1_ := Q4 (Qg (by repeat (first|(with_reducible first|exact HB.out|apply Q8|apply Q5|apply Q9|refine Q6 ?_ GE187.out)|exact HB.out)) hb); clear BK187; clear HB; have BK187 := n0_; have HB := n1_; clear n0_ n1_;(try clear hb);(try clear hb2);(try clear hk);(try clear hi); have hcz38_0 : w37.cell? ⟨gb187, 0, none⟩ = some (.string a0_0) := (Qe BK187.out 0).trans rfl; have hcz38_1 : w37.cell? ⟨gb187, 1, none⟩ = some (.int .i64 a0_1) := (Qe BK187.out 1).trans rfl; have hcz38_2 : w37.cell? ⟨gb187, 2, none⟩ = some (.int .i64 a0_2) := (Qe BK187.out 2).trans rfl; have hcz38_3 : w37.cell? ⟨gb187, 3, none⟩ = some (.int .i64 a0_3) := (Qe BK187.out 3).trans rfl; have hcz38_4 : w37.cell? ⟨gb187, 4, none⟩ = some (.int .i64 a0_4) := (Qe BK187.out 4).trans rfl; have hcz38_5 : w37.cell? ⟨gb187, 5, none⟩ = some (.int .i32 a0_5) := (Qe BK187.out 5).trans rfl; have hcz38_6 : w37.cell? ⟨gb187, 6, none⟩ = some (.string a0_6) := (Qe BK187.out 6).trans rfl; have hfz38_0 := Qd BK187.out 0; have hfz38_1 := Qd BK187.out 1; have hfz38_2 := Qd BK187.out 2; have hfz38_3 := Qd BK187.out 3; have hfz38_4 := Qd BK187.out 4; have hfz38_5 := Qd BK187.out 5; have hfz38_6 := Qd BK187.out 6)))
        go_ret
        exact ⟨by first|rfl|(simp [errW_none, errW_some] <;> rfl)|(simp only [← hji10]; first|rfl|(simp [errW_none, errW_some] <;> rfl))|(simp [*, errW_none, errW_some] <;> rfl), by repeat (first|(with_reducible first|exact HB.out|apply Q8|apply Q5|apply Q9|refine Q6 ?_ GE187.out)|exact HB.out)⟩
      ·rw [if_neg c14] at H
       exact absurd H (by simp)
     ·rw [if_neg c13] at H
      exact absurd H (by simp)
    ·rw [if_neg c12] at H
     exact absurd H (by simp)
   ·rw [if_neg c11] at H
    exact absurd H (by simp)
 ·rw [if_neg c2] at H
  have c2b0 : (a0_0.toList == ([] : List UInt8)) = false := Qk c2
  have c2b1 : (a0_0.toList != ([] : List UInt8)) = true := Ql c2
  by_cases c39 : a0_0.size + 1 ≤ 9223372036854775807
  ·rw [if_pos c39] at H
   have c39b0 := eq_true c39
   have c39b1 : decide (a0_0.size + 1 ≤ 9223372036854775807) = true := Qj c39
   try have c39b2 : (9223372036854775807 < a0_0.size + 1) = False := eq_false (Nat.not_lt.2 c39)
   obtain rfl := Qn H
   go_enter Tryz.func39, Tryz.ntmps39
   go_wp2_with (first|((with_reducible refine gate_dst (N := 1) rfl ?_); refine box_event ?hg (N := 1) ?hd (cs := #[.string a0_0, .int .i64 a0_1, .int .i64 a0_2, .int .i64 a0_3, .int .i64 a0_4, .int .i32 a0_5, .string a0_6]) (t := 40) ?hr ?_; (case hd => rfl); (case hg => rfl); (case hr => first|(go_simp; done)|(go_simp; rfl)); intro gb187 hg w40 hbox hb; have n0_ := Q4 (Qg (by repeat (first|(with_reducible first|exact HB.out|apply Q8|apply Q5|apply Q9)|exact HB.out)) hb); have n1_ := Q4 (hbox); have n2_ := Q4 ((by rw [hg]; exact bZ : w.heap.size ≤ gb187)); have n3_ := Q4 ((by rw [hg]; exact bZ : w.heap.size ≤ gb187)); clear HB; have HB := n0_; have BK187 := n1_; have GW187 := n2_; have GE187 := n3_; clear n0_ n1_ n2_ n3_; clear hb hbox hg; have hcz41_0 : w40.cell? ⟨gb187, 0, none⟩ = some (.string a0_0) := (Qe BK187.out 0).trans rfl; have hcz41_1 : w40.cell? ⟨gb187, 1, none⟩ = some (.int .i64 a0_1) := (Qe BK187.out 1).trans rfl; have hcz41_2 : w40.cell? ⟨gb187, 2, none⟩ = some (.int .i64 a0_2) := (Qe BK187.out 2).trans rfl; have hcz41_3 : w40.cell? ⟨gb187, 3, none⟩ = some (.int .i64 a0_3) := (Qe BK187.out 3).trans rfl; have hcz41_4 : w40.cell? ⟨gb187, 4, none⟩ = some (.int .i64 a0_4) := (Qe BK187.out 4).trans rfl; have hcz41_5 : w40.cell? ⟨gb187, 5, none⟩ = some (.int .i32 a0_5) := (Qe BK187.out 5).trans rfl; have hcz41_6 : w40.cell? ⟨gb187, 6, none⟩ = some (.string a0_6) := (Qe BK187.out 6).trans rfl; have hfz41_0 := Qd BK187.out 0; have hfz41_1 := Qd BK187.out 1; have hfz41_2 := Qd BK187.out 2; have hfz41_3 := Qd BK187.out 3; have hfz41_4 := Qd BK187.out 4; have hfz41_5 := Qd BK187.out 5; have hfz41_6 := Qd BK187.out 6))
   repeat (go_quiet (first|((with_reducible refine gate_dst (N := 1) rfl ?_); refine box_event ?hg (N := 1) ?hd (cs := #[.string a0_0, .int .i64 a0_1, .int .i64 a0_2, .int .i64 a0_3, .int .i64 a0_4, .int .i32 a0_5, .string a0_6]) (t := 40) ?hr ?_; (case hd => rfl); (case hg => rfl); (case hr => first|(go_simp; done)|(go_simp; rfl)); intro gb187 hg w40 hbox hb; have n0_ := Q4 (Qg (by repeat (first|(with_reducible first|exact HB.out|apply Q8|apply Q5|apply Q9)|exact HB.out)) hb); have n1_ := Q4 (hbox); have n2_ := Q4 ((by rw [hg]; exact bZ : w.heap.size ≤ gb187)); have n3_ := Q4 ((by rw [hg]; exact bZ : w.heap.size ≤ gb187)); clear HB; have HB := n0_; have BK187 := n1_; have GW187 := n2_; have GE187 := n3_; clear n0_ n1_ n2_ n3_; clear hb hbox hg; have hcz41_0 : w40.cell? ⟨gb187, 0, none⟩ = some (.string a0_0) := (Qe BK187.out 0).trans rfl; have hcz41_1 : w40.cell? ⟨gb187, 1, none⟩ = some (.int .i64 a0_1) := (Qe BK187.out 1).trans rfl; have hcz41_2 : w40.cell? ⟨gb187, 2, none⟩ = some (.int .i64 a0_2) := (Qe BK187.out 2).trans rfl; have hcz41_3 : w40.cell? ⟨gb187, 3, none⟩ = some (.int .i64 a0_3) := (Qe BK187.out 3).trans rfl; have hcz41_4 : w40.cell? ⟨gb187, 4, none⟩ = some (.int .i64 a0_4) := (Qe BK187.out 4).trans rfl; have hcz41_5 : w40.cell? ⟨gb187, 5, none⟩ = some (.int .i32 a0_5) := (Qe BK187.out 5).trans rfl; have hcz41_6 : w40.cell? ⟨gb187, 6, none⟩ = some (.string a0_6) := (Qe BK187.out 6).trans rfl; have hfz41_0 := Qd BK187.out 0; have hfz41_1 := Qd BK187.out 1; have hfz41_2 := Qd BK187.out 2; have hfz41_3 := Qd BK187.out 3; have hfz41_4 := Qd BK187.out 4; have hfz41_5 := Qd BK187.out 5; have hfz41_6 := Qd BK187.out 6)); try go_wp2_with (first|((with_reducible refine gate_dst (N := 1) rfl ?_); refine box_event ?hg (N := 1) ?hd (cs := #[.string a0_0, .int .i64 a0_1, .int .i64 a0_2, .int .i64 a0_3, .int .i64 a0_4, .int .i32 a0_5, .string a0_6]) (t := 40) ?hr ?_; (case hd => rfl); (case hg => rfl); (case hr => first|(go_simp; done)|(go_simp; rfl)); intro gb187 hg w40 hbox hb; have n0_ := Q4 (Qg (by repeat (first|(with_reducible first|exact HB.out|apply Q8|apply Q5|apply Q9)|exact HB.out)) hb); have n1_ := Q4 (hbox); have n2_ := Q4 ((by rw [hg]; exact bZ : w.heap.size ≤ gb187)); have n3_ := Q4 ((by rw [hg]; exact bZ : w.heap.size ≤ gb187)); clear HB; have HB := n0_; have BK187 := n1_; have GW187 := n2_; have GE187 := n3_; clear n0_ n1_ n2_ n3_; clear hb hbox hg; have hcz41_0 : w40.cell? ⟨gb187, 0, none⟩ = some (.string a0_0) := (Qe BK187.out 0).trans rfl; have hcz41_1 : w40.cell? ⟨gb187, 1, none⟩ = some (.int .i64 a0_1) := (Qe BK187.out 1).trans rfl; have hcz41_2 : w40.cell? ⟨gb187, 2, none⟩ = some (.int .i64 a0_2) := (Qe BK187.out 2).trans rfl; have hcz41_3 : w40.cell? ⟨gb187, 3, none⟩ = some (.int .i64 a0_3) := (Qe BK187.out 3).trans rfl; have hcz41_4 : w40.cell? ⟨gb187, 4, none⟩ = some (.int .i64 a0_4) := (Qe BK187.out 4).trans rfl; have hcz41_5 : w40.cell? ⟨gb187, 5, none⟩ = some (.int .i32 a0_5) := (Qe BK187.out 5).trans rfl; have hcz41_6 : w40.cell? ⟨gb187, 6, none⟩ = some (.string a0_6) := (Qe BK187.out 6).trans rfl; have hfz41_0 := Qd BK187.out 0; have hfz41_1 := Qd BK187.out 1; have hfz41_2 := Qd BK187.out 2; have hfz41_3 := Qd BK187.out 3; have hfz41_4 := Qd BK187.out 4; have hfz41_5 := Qd BK187.out 5; have hfz41_6 := Qd BK187.out 6)))
   go_ret
   exact ⟨by first|rfl|(simp [errW_none, errW_some] <;> rfl)|(simp [*, errW_none, errW_some] <;> rfl), by repeat (first|(with_reducible first|exact HB.out|apply Q8|apply Q5|apply Q9|refine Q6 ?_ GE187.out)|exact HB.out)⟩
  ·rw [if_neg c39] at H
   exact absurd H (by simp)

end Go.Proofs.YtbelnkdbghggmaaGreatDoor.X
