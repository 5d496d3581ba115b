/- Texts of this claim that stand one behind another, merged. -/
import Derived.Test.YtbelnkdbghggmaaGreatDoorXx0
import Derived.Test.YtbelnkdbghggmaaGreatDoorMr6
import Derived.Test.YtbelnkdbghggmaaGreatDoorMr7
import Derived.Test.YtbelnkdbghggmaaGreatDoorMr5
import Derived.Test.YtbelnkdbghggmaaGreatDoorMr2
import Derived.Lib.SplitLaws
import Derived.Lib.ParseIntBTie
import Derived.Lib.ItoaMem
import Derived.Lib.ItoaLen
import Derived.Lib.Strings
namespace Go.Proofs.YtbelnkdbghggmaaGreatDoor.X
open Go.RowKit Go.Proofs.YtbelnkdbghggmaaGreatDoorW.PrintWords Go.Proofs.YtbelnkdbghggmaaGreatDoorW.PrintLast

set_option linter.unusedVariables false
set_option linter.unusedSimpArgs false

/-! ### curtilageref08_Text: function 34 -/
mutual
def curtilageref08_Text.j0 : Nat → ByteArray → Int → Int → Int → Int → Int → Option (ByteArray)
 | 0, _, _, _, _, _, _ => none
 | k + 1, x3, x171000, x171001, x171002, x171003, x171004 => (curtilageref08_uses.f k x171000 98).bind fun t175 => (if t175 = true then (if x3.size + 2 ≤ 9223372036854775807 then ((curtilageref08_Digits.f k x171002).bind fun t176 => (if (x3 ++ (⟨#[32, 114]⟩ : ByteArray)).size + t176.size ≤ 9223372036854775807 then (curtilageref08_Text.j1 k ((x3 ++ (⟨#[32, 114]⟩ : ByteArray)) ++ t176) x171000 x171001 x171002 x171003 x171004) else (none))) else (none)) else (curtilageref08_Text.j1 k x3 x171000 x171001 x171002 x171003 x171004))
def curtilageref08_Text.j1 : Nat → ByteArray → Int → Int → Int → Int → Int → Option (ByteArray)
 | 0, _, _, _, _, _, _ => none
 | k + 1, x3, x171000, x171001, x171002, x171003, x171004 => (curtilageref08_uses.f k x171000 99).bind fun t177 => (if t177 = true then (if x3.size + 2 ≤ 9223372036854775807 then ((curtilageref08_Digits.f k x171003).bind fun t178 => (if (x3 ++ (⟨#[32, 114]⟩ : ByteArray)).size + t178.size ≤ 9223372036854775807 then (curtilageref08_Text.j2 k ((x3 ++ (⟨#[32, 114]⟩ : ByteArray)) ++ t178) x171000 x171001 x171002 x171003 x171004) else (none))) else (none)) else (curtilageref08_Text.j2 k x3 x171000 x171001 x171002 x171003 x171004))
def curtilageref08_Text.j2 : Nat → ByteArray → Int → Int → Int → Int → Int → Option (ByteArray)
 | 0, _, _, _, _, _, _ => none
 | k + 1, x3, x171000, x171001, x171002, x171003, x171004 => (curtilageref08_uses.f k x171000 105).bind fun t179 => (if t179 = true then (if x3.size + 1 ≤ 9223372036854775807 then ((curtilageref08_Digits.f k (wrap64 (x171004))).bind fun t180 => (if (x3 ++ (⟨#[32]⟩ : ByteArray)).size + t180.size ≤ 9223372036854775807 then (some ((x3 ++ (⟨#[32]⟩ : ByteArray)) ++ t180)) else (none))) else (none)) else (some x3))
end
def curtilageref08_Text.f (k : Nat) (a0_0 : Int) (a0_1 : Int) (a0_2 : Int) (a0_3 : Int) (a0_4 : Int) : Option (ByteArray) := (curtilageref08_Fit.f k a0_0 a0_1 a0_2 a0_3 a0_4).bind fun t171 => (if t171 = true then ((curtilageref08_name.f a0_0).bind fun t172 => ((curtilageref08_uses.f k a0_0 97).bind fun t173 => (if t173 = true then (if t172.size + 2 ≤ 9223372036854775807 then ((curtilageref08_Digits.f k a0_1).bind fun t174 => (if (t172 ++ (⟨#[32, 114]⟩ : ByteArray)).size + t174.size ≤ 9223372036854775807 then (curtilageref08_Text.j0 k ((t172 ++ (⟨#[32, 114]⟩ : ByteArray)) ++ t174) a0_0 a0_1 a0_2 a0_3 a0_4) else (none))) else (none)) else (curtilageref08_Text.j0 k t172 a0_0 a0_1 a0_2 a0_3 a0_4)))) else (some (⟨#[]⟩ : ByteArray)))
set_option maxHeartbeats 8000000 in
set_option maxRecDepth 100000 in
theorem curtilageref08_Text.calls (k : Nat) (a0_0 : Int) (a0_1 : Int) (a0_2 : Int) (a0_3 : Int) (a0_4 : Int) (r : ByteArray) (w : World) (h : curtilageref08_Text.f k a0_0 a0_1 a0_2 a0_3 a0_4 = some r) :
  Calls Tryz.prog 34 #[.agg #[.int .i64 a0_0, .int .i64 a0_1, .int .i64 a0_2, .int .i64 a0_3, .int .i32 a0_4]] w fun e w' => e = .returned (.string r) ∧ Below w.heap.size w w' := by
 have hu38 := Tryz.underlying38
 have HB := Q4 (Below.refl w.heap.size w)
 have H := h
 unfold curtilageref08_Text.f at H
 clear h
 replace H := Qi H
 obtain ⟨t171, A20, H⟩ := H
 try dsimp only at H
 have A2 := Q4 A20
 clear A20
 by_cases c3 : t171 = true
 ·subst c3
  rw [if_pos rfl] at H
  replace H := Qi H
  obtain ⟨t172, A40, H⟩ := H
  try dsimp only at H
  have A4 := Q4 A40
  clear A40
  replace H := Qi H
  obtain ⟨t173, A50, H⟩ := H
  try dsimp only at H
  have A5 := Q4 A50
  clear A50
  have HC6 := Q4 H
  clear H
  go_enter Tryz.func34, Tryz.ntmps34
  go_upto_if 12 with (first|((with_reducible refine gate_dst (N := 1) rfl ?_); refine box_event ?hg (N := 1) ?hd (cs := #[.int .i64 a0_0, .int .i64 a0_1, .int .i64 a0_2, .int .i64 a0_3, .int .i32 a0_4]) (t := 38) ?hr ?_; (case hd => rfl); (case hg => rfl); (case hr => first|(go_simp; done)|(go_simp; rfl)); intro gb170 hg w7 hbox hb; have n0_ := Q4 (Qg (by repeat (first|(with_reducible first|exact HB.out|apply Q8|apply Q5|apply Q9)|exact HB.out)) hb); have n1_ := Q4 (hbox); have n2_ := Q4 ((by rw [hg]; exact bZ : w.heap.size ≤ gb170)); have n3_ := Q4 ((by rw [hg]; exact bZ : w.heap.size ≤ gb170)); clear HB; have HB := n0_; have BK170 := n1_; have GW170 := n2_; have GE170 := n3_; clear n0_ n1_ n2_ n3_; clear hb hbox hg; have hcz8_0 : w7.cell? ⟨gb170, 0, none⟩ = some (.int .i64 a0_0) := (Qe BK170.out 0).trans rfl; have hcz8_1 : w7.cell? ⟨gb170, 1, none⟩ = some (.int .i64 a0_1) := (Qe BK170.out 1).trans rfl; have hcz8_2 : w7.cell? ⟨gb170, 2, none⟩ = some (.int .i64 a0_2) := (Qe BK170.out 2).trans rfl; have hcz8_3 : w7.cell? ⟨gb170, 3, none⟩ = some (.int .i64 a0_3) := (Qe BK170.out 3).trans rfl; have hcz8_4 : w7.cell? ⟨gb170, 4, none⟩ = some (.int .i32 a0_4) := (Qe BK170.out 4).trans rfl; have hfz8_0 := Qd BK170.out 0; have hfz8_1 := Qd BK170.out 1; have hfz8_2 := Qd BK170.out 2; have hfz8_3 := Qd BK170.out 3; have hfz8_4 := Qd BK170.out 4)|((with_reducible refine gate_callee (f := 46) rfl ?_); refine gL (some 5) Tryz.func46 #[.agg #[.int .i64 a0_0, .int .i64 a0_1, .int .i64 a0_2, .int .i64 a0_3, .int .i32 a0_4]] ?_; (with_reducible refine (curtilageref08_Fit.calls k a0_0 a0_1 a0_2 a0_3 a0_4 true _ A2.out).mono ?_); rintro e w9 ⟨rfl, hb⟩; refine ⟨_, rfl, ?_⟩; have n0_ := Q4 (Qo (g := gb170) (o := .cells #[.int .i64 a0_0, .int .i64 a0_1, .int .i64 a0_2, .int .i64 a0_3, .int .i32 a0_4] 38 (0, 0)) (bK BK170) hb); have n1_ := Q4 (Qg (by repeat (first|(with_reducible first|exact HB.out|apply Q8|apply Q5|apply Q9|refine Q6 ?_ GE170.out)|exact HB.out)) hb); clear BK170; clear HB; have BK170 := n0_; have HB := n1_; clear n0_ n1_;(try clear hb);(try clear hb2);(try clear hk);(try clear hi); have hcz10_0 : w9.cell? ⟨gb170, 0, none⟩ = some (.int .i64 a0_0) := (Qe BK170.out 0).trans rfl; have hcz10_1 : w9.cell? ⟨gb170, 1, none⟩ = some (.int .i64 a0_1) := (Qe BK170.out 1).trans rfl; have hcz10_2 : w9.cell? ⟨gb170, 2, none⟩ = some (.int .i64 a0_2) := (Qe BK170.out 2).trans rfl; have hcz10_3 : w9.cell? ⟨gb170, 3, none⟩ = some (.int .i64 a0_3) := (Qe BK170.out 3).trans rfl; have hcz10_4 : w9.cell? ⟨gb170, 4, none⟩ = some (.int .i32 a0_4) := (Qe BK170.out 4).trans rfl; have hfz10_0 := Qd BK170.out 0; have hfz10_1 := Qd BK170.out 1; have hfz10_2 := Qd BK170.out 2; have hfz10_3 := Qd BK170.out 3; have hfz10_4 := Qd BK170.out 4)|((with_reducible refine gate_callee (f := 60) rfl ?_); refine gL (some 9) Tryz.func60 #[.int .i64 a0_0] ?_; (with_reducible refine (curtilageref08_name.calls a0_0 t172 _ A4.out).mono ?_); rintro e w11 ⟨rfl, hb⟩; refine ⟨_, rfl, ?_⟩; have n0_ := Q4 (Qo (g := gb170) (o := .cells #[.int .i64 a0_0, .int .i64 a0_1, .int .i64 a0_2, .int .i64 a0_3, .int .i32 a0_4] 38 (0, 0)) (bK BK170) hb); have n1_ := Q4 (Qg (by repeat (first|(with_reducible first|exact HB.out|apply Q8|apply Q5|apply Q9|refine Q6 ?_ GE170.out)|exact HB.out)) hb); clear BK170; clear HB; have BK170 := n0_; have HB := n1_; clear n0_ n1_;(try clear hb);(try clear hb2);(try clear hk);(try clear hi); have hcz12_0 : w11.cell? ⟨gb170, 0, none⟩ = some (.int .i64 a0_0) := (Qe BK170.out 0).trans rfl; have hcz12_1 : w11.cell? ⟨gb170, 1, none⟩ = some (.int .i64 a0_1) := (Qe BK170.out 1).trans rfl; have hcz12_2 : w11.cell? ⟨gb170, 2, none⟩ = some (.int .i64 a0_2) := (Qe BK170.out 2).trans rfl; have hcz12_3 : w11.cell? ⟨gb170, 3, none⟩ = some (.int .i64 a0_3) := (Qe BK170.out 3).trans rfl; have hcz12_4 : w11.cell? ⟨gb170, 4, none⟩ = some (.int .i32 a0_4) := (Qe BK170.out 4).trans rfl; have hfz12_0 := Qd BK170.out 0; have hfz12_1 := Qd BK170.out 1; have hfz12_2 := Qd BK170.out 2; have hfz12_3 := Qd BK170.out 3; have hfz12_4 := Qd BK170.out 4)|((with_reducible refine gate_callee (f := 61) rfl ?_); refine gL (some 12) Tryz.func61 #[.int .i64 a0_0, .int .u8 97] ?_; (with_reducible refine (curtilageref08_uses.calls k a0_0 97 t173 _ A5.out).mono ?_); rintro e w' ⟨rfl, ⟨nd, rfl⟩⟩; refine ⟨_, rfl, ?_⟩))
  (try simp only [Act.put, Q1,Q2,Q3])
  go_cut [3] (fun v3 wc => ∃ (kq : Nat) (x3_5 : ByteArray), v3 = .string x3_5 ∧ Aside0 (curtilageref08_Text.j0 kq x3_5 a0_0 a0_1 a0_2 a0_3 a0_4 = some r) ∧ Aside0 (kq ≤ k) ∧ Aside0 (wc.heap[gb170]? = some (.cells #[.int .i64 a0_0, .int .i64 a0_1, .int .i64 a0_2, .int .i64 a0_3, .int .i32 a0_4] 38 (0, 0))) ∧ Aside0 (Below w.heap.size w wc))
  case first =>
   have H := HC6.out
   clear HC6
   by_cases c13 : t173 = true
   ·subst c13
    rw [if_pos rfl] at H
    by_cases c14 : t172.size + 2 ≤ 9223372036854775807
    ·rw [if_pos c14] at H
     have c14b0 := eq_true c14
     have c14b1 : decide (t172.size + 2 ≤ 9223372036854775807) = true := Qj c14
     try have c14b2 : (9223372036854775807 < t172.size + 2) = False := eq_false (Nat.not_lt.2 c14)
     replace H := Qi H
     obtain ⟨t174, A150, H⟩ := H
     try dsimp only at H
     have A15 := Q4 A150
     clear A150
     by_cases c16 : (t172 ++ (⟨#[32, 114]⟩ : ByteArray)).size + t174.size ≤ 9223372036854775807
     ·rw [if_pos c16] at H
      try have c16z : (9223372036854775807 < t172.size + 2 + t174.size) = False := eq_false (Nat.not_lt.2 (by have h0 := c16; simp only [ByteArray.size_append] at h0; exact h0))
      have c16b0 := eq_true c16
      have c16b1 : decide ((t172 ++ (⟨#[32, 114]⟩ : ByteArray)).size + t174.size ≤ 9223372036854775807) = true := Qj c16
      try have c16b2 : (9223372036854775807 < (t172 ++ (⟨#[32, 114]⟩ : ByteArray)).size + t174.size) = False := eq_false (Nat.not_lt.2 c16)
      have H' := Q4 H
      clear H
      have hcz17_0 : w11.cell? ⟨gb170, 0, none⟩ = some (.int .i64 a0_0) := (Qe BK170.out 0).trans rfl
      have hcz17_1 : w11.cell? ⟨gb170, 1, none⟩ = some (.int .i64 a0_1) := (Qe BK170.out 1).trans rfl
      have hcz17_2 : w11.cell? ⟨gb170, 2, none⟩ = some (.int .i64 a0_2) := (Qe BK170.out 2).trans rfl
      have hcz17_3 : w11.cell? ⟨gb170, 3, none⟩ = some (.int .i64 a0_3) := (Qe BK170.out 3).trans rfl
      have hcz17_4 : w11.cell? ⟨gb170, 4, none⟩ = some (.int .i32 a0_4) := (Qe BK170.out 4).trans rfl
      have hfz17_0 := Qd BK170.out 0
      have hfz17_1 := Qd BK170.out 1
      have hfz17_2 := Qd BK170.out 2
      have hfz17_3 := Qd BK170.out 3
      have hfz17_4 := Qd BK170.out 4
      go_wp2_with (first|((with_reducible refine gate_callee (f := 62) rfl ?_); refine gL (some 17) Tryz.func62 #[.int .i64 a0_1] ?_; (with_reducible refine (curtilageref08_Digits.calls k a0_1 t174 _ A15.out).mono ?_); rintro e w18 ⟨rfl, hb⟩; refine ⟨_, rfl, ?_⟩; have n0_ := Q4 (Qo (g := gb170) (o := .cells #[.int .i64 a0_0, .int .i64 a0_1, .int .i64 a0_2, .int .i64 a0_3, .int .i32 a0_4] 38 (0, 0)) (bK BK170) hb); have n1_ := Q4 (Qg (by repeat (first|(with_reducible first|exact HB.out|apply Q8|apply Q5|apply Q9|refine Q6 ?_ GE170.out)|exact HB.out)) hb); clear BK170; clear HB; have BK170 := n0_; have HB := n1_; clear n0_ n1_;(try clear hb);(try clear hb2);(try clear hk);(try clear hi)))
      go_meet
      case rel => exact ⟨_, ((t172 ++ (⟨#[32, 114]⟩ : ByteArray)) ++ t174), (by first|rfl|(simp; done)|(simp [*]; done)), H', ⟨by first|omega|exact Nat.le_refl _⟩, ⟨by (with_reducible repeat (first|refine Qa ?_ _|refine Qb ?_|refine Q7 ?_ _)); exact BK170.out⟩, ⟨by repeat (first|(with_reducible first|exact HB.out|apply Q8|apply Q5|apply Q9|refine Q6 ?_ GE170.out)|exact HB.out)⟩⟩
     ·rw [if_neg c16] at H
      exact absurd H (by simp)
    ·rw [if_neg c14] at H
     exact absurd H (by simp)
   ·replace c13 := Bool.eq_false_iff.mpr c13
    subst c13
    rw [if_neg (show ¬ (false = true) by decide)] at H
    have H' := Q4 H
    clear H
    go_wp2
    go_meet
    case rel => exact ⟨_, (t172), (by first|rfl|(simp; done)|(simp [*]; done)), H', ⟨by first|omega|exact Nat.le_refl _⟩, ⟨by (with_reducible repeat (first|refine Qa ?_ _|refine Qb ?_|refine Q7 ?_ _)); exact BK170.out⟩, ⟨by repeat (first|(with_reducible first|exact HB.out|apply Q8|apply Q5|apply Q9|refine Q6 ?_ GE170.out)|exact HB.out)⟩⟩
  case rest =>
   clear HC6
   (try clear c1);(try clear p2);(try clear c3);(try clear c4);(try clear c6);(try clear c13);(try clear c14);(try clear c14b0);(try clear c14b1);(try clear c14b2);(try clear c16);(try clear c16b0);(try clear c16b1);(try clear c16b2);(try clear hcz10_0);(try clear hcz10_1);(try clear hcz10_2);(try clear hcz10_3);(try clear hcz10_4);(try clear hcz12_0);(try clear hcz12_1);(try clear hcz12_2);(try clear hcz12_3);(try clear hcz12_4);(try clear hcz17_0);(try clear hcz17_1);(try clear hcz17_2);(try clear hcz17_3);(try clear hcz17_4);(try clear hcz8_0);(try clear hcz8_1);(try clear hcz8_2);(try clear hcz8_3);(try clear hcz8_4);(try clear hfz10_0);(try clear hfz10_1);(try clear hfz10_2);(try clear hfz10_3);(try clear hfz10_4);(try clear hfz12_0);(try clear hfz12_1);(try clear hfz12_2);(try clear hfz12_3);(try clear hfz12_4);(try clear hfz17_0);(try clear hfz17_1);(try clear hfz17_2);(try clear hfz17_3);(try clear hfz17_4);(try clear hfz8_0);(try clear hfz8_1);(try clear hfz8_2);(try clear hfz8_3);(try clear hfz8_4)
   obtain ⟨kq, x3_5, rfl, HA, HJ5, BK170, HB⟩ := hcut
   cases kq with
   | zero => exact absurd HA.out (by simp [curtilageref08_Text.j0])
   | succ kj5 =>
    have H := HA.out
    clear HA
    simp only [curtilageref08_Text.j0] at H
    replace H := Qi H
    obtain ⟨t175, A190, H⟩ := H
    try dsimp only at H
    have A19 := Q4 A190
    clear A190
    have HC20 := Q4 H
    clear H
    have hcz21_0 : wc.cell? ⟨gb170, 0, none⟩ = some (.int .i64 a0_0) := (Qe BK170.out 0).trans rfl
    have hcz21_1 : wc.cell? ⟨gb170, 1, none⟩ = some (.int .i64 a0_1) := (Qe BK170.out 1).trans rfl
    have hcz21_2 : wc.cell? ⟨gb170, 2, none⟩ = some (.int .i64 a0_2) := (Qe BK170.out 2).trans rfl
    have hcz21_3 : wc.cell? ⟨gb170, 3, none⟩ = some (.int .i64 a0_3) := (Qe BK170.out 3).trans rfl
    have hcz21_4 : wc.cell? ⟨gb170, 4, none⟩ = some (.int .i32 a0_4) := (Qe BK170.out 4).trans rfl
    have hfz21_0 := Qd BK170.out 0
    have hfz21_1 := Qd BK170.out 1
    have hfz21_2 := Qd BK170.out 2
    have hfz21_3 := Qd BK170.out 3
    have hfz21_4 := Qd BK170.out 4
    go_upto_if 21 with (first|((with_reducible refine gate_callee (f := 61) rfl ?_); refine gL (some 21) Tryz.func61 #[.int .i64 a0_0, .int .u8 98] ?_; (with_reducible refine (curtilageref08_uses.calls kj5 a0_0 98 t175 _ A19.out).mono ?_); rintro e w' ⟨rfl, ⟨nd, rfl⟩⟩; refine ⟨_, rfl, ?_⟩))
    (try simp only [Act.put, Q1,Q2,Q3])
    go_cut [3] (fun v3 wc => ∃ (kq : Nat) (x3_19 : ByteArray), v3 = .string x3_19 ∧ Aside0 (curtilageref08_Text.j1 kq x3_19 a0_0 a0_1 a0_2 a0_3 a0_4 = some r) ∧ Aside0 (kq ≤ kj5) ∧ Aside0 (wc.heap[gb170]? = some (.cells #[.int .i64 a0_0, .int .i64 a0_1, .int .i64 a0_2, .int .i64 a0_3, .int .i32 a0_4] 38 (0, 0))) ∧ Aside0 (Below w.heap.size w wc))
    case first =>
     have H := HC20.out
     clear HC20
     by_cases c22 : t175 = true
     ·subst c22
      rw [if_pos rfl] at H
      by_cases c23 : x3_5.size + 2 ≤ 9223372036854775807
      ·rw [if_pos c23] at H
       have c23b0 := eq_true c23
       have c23b1 : decide (x3_5.size + 2 ≤ 9223372036854775807) = true := Qj c23
       try have c23b2 : (9223372036854775807 < x3_5.size + 2) = False := eq_false (Nat.not_lt.2 c23)
       replace H := Qi H
       obtain ⟨t176, A240, H⟩ := H
       try dsimp only at H
       have A24 := Q4 A240
       clear A240
       by_cases c25 : (x3_5 ++ (⟨#[32, 114]⟩ : ByteArray)).size + t176.size ≤ 9223372036854775807
       ·rw [if_pos c25] at H
        try have c25z : (9223372036854775807 < x3_5.size + 2 + t176.size) = False := eq_false (Nat.not_lt.2 (by have h0 := c25; simp only [ByteArray.size_append] at h0; exact h0))
        have c25b0 := eq_true c25
        have c25b1 : decide ((x3_5 ++ (⟨#[32, 114]⟩ : ByteArray)).size + t176.size ≤ 9223372036854775807) = true := Qj c25
        try have c25b2 : (9223372036854775807 < (x3_5 ++ (⟨#[32, 114]⟩ : ByteArray)).size + t176.size) = False := eq_false (Nat.not_lt.2 c25)
        have H' := Q4 H
        clear H
        have hcz26_0 : wc.cell? ⟨gb170, 0, none⟩ = some (.int .i64 a0_0) := (Qe BK170.out 0).trans rfl
        have hcz26_1 : wc.cell? ⟨gb170, 1, none⟩ = some (.int .i64 a0_1) := (Qe BK170.out 1).trans rfl
        have hcz26_2 : wc.cell? ⟨gb170, 2, none⟩ = some (.int .i64 a0_2) := (Qe BK170.out 2).trans rfl
        have hcz26_3 : wc.cell? ⟨gb170, 3, none⟩ = some (.int .i64 a0_3) := (Qe BK170.out 3).trans rfl
        have hcz26_4 : wc.cell? ⟨gb170, 4, none⟩ = some (.int .i32 a0_4) := (Qe BK170.out 4).trans rfl
        have hfz26_0 := Qd BK170.out 0
        have hfz26_1 := Qd BK170.out 1
        have hfz26_2 := Qd BK170.out 2
        have hfz26_3 := Qd BK170.out 3
        have hfz26_4 := Qd BK170.out 4
        go_wp2_with (first|((with_reducible refine gate_callee (f := 62) rfl ?_); refine gL (some 26) Tryz.func62 #[.int .i64 a0_2] ?_; (with_reducible refine (curtilageref08_Digits.calls kj5 a0_2 t176 _ A24.out).mono ?_); rintro e w27 ⟨rfl, hb⟩; refine ⟨_, rfl, ?_⟩; have n0_ := Q4 (Qo (g := gb170) (o := .cells #[.int .i64 a0_0, .int .i64 a0_1, .int .i64 a0_2, .int .i64 a0_3, .int .i32 a0_4] 38 (0, 0)) (bK BK170) hb); have n1_ := Q4 (Qg (by repeat (first|(with_reducible first|exact HB.out|apply Q8|apply Q5|apply Q9|refine Q6 ?_ GE170.out)|exact HB.out)) hb); clear BK170; clear HB; have BK170 := n0_; have HB := n1_; clear n0_ n1_;(try clear hb);(try clear hb2);(try clear hk);(try clear hi)))
        go_meet
        case rel => exact ⟨_, ((x3_5 ++ (⟨#[32, 114]⟩ : ByteArray)) ++ t176), (by first|rfl|(simp; done)|(simp [*]; done)), H', ⟨by have := HJ5.out; first|omega|exact Nat.le_refl _⟩, ⟨by (with_reducible repeat (first|refine Qa ?_ _|refine Qb ?_|refine Q7 ?_ _)); exact BK170.out⟩, ⟨by repeat (first|(with_reducible first|exact HB.out|apply Q8|apply Q5|apply Q9|refine Q6 ?_ GE170.out)|exact HB.out)⟩⟩
       ·rw [if_neg c25] at H
        exact absurd H (by simp)
      ·rw [if_neg c23] at H
       exact absurd H (by simp)
     ·replace c22 := Bool.eq_false_iff.mpr c22
      subst c22
      rw [if_neg (show ¬ (false = true) by decide)] at H
      have H' := Q4 H
      clear H
      go_wp2
      go_meet
      case rel => exact ⟨_, (x3_5), (by first|rfl|(simp; done)|(simp [*]; done)), H', ⟨by have := HJ5.out; first|omega|exact Nat.le_refl _⟩, ⟨by (with_reducible repeat (first|refine Qa ?_ _|refine Qb ?_|refine Q7 ?_ _)); exact BK170.out⟩, ⟨by repeat (first|(with_reducible first|exact HB.out|apply Q8|apply Q5|apply Q9|refine Q6 ?_ GE170.out)|exact HB.out)⟩⟩
    case rest =>
     clear HC20
     (try clear c1);(try clear c2);(try clear p2);(try clear c3);(try clear c4);(try clear c6);(try clear c13);(try clear c14);(try clear c14b0);(try clear c14b1);(try clear c14b2);(try clear c16);(try clear c16b0);(try clear c16b1);(try clear c16b2);(try clear c22);(try clear c23);(try clear c23b0);(try clear c23b1);(try clear c23b2);(try clear c25);(try clear c25b0);(try clear c25b1);(try clear c25b2);(try clear hcz10_0);(try clear hcz10_1);(try clear hcz10_2);(try clear hcz10_3);(try clear hcz10_4);(try clear hcz12_0);(try clear hcz12_1);(try clear hcz12_2);(try clear hcz12_3);(try clear hcz12_4);(try clear hcz17_0);(try clear hcz17_1);(try clear hcz17_2);(try clear hcz17_3);(try clear hcz17_4);(try clear hcz21_0);(try clear hcz21_1);(try clear hcz21_2);(try clear hcz21_3);(try clear hcz21_4);(try clear hcz26_0);(try clear hcz26_1);(try clear hcz26_2);(try clear hcz26_3);(try clear hcz26_4);(try clear hcz8_0);(try clear hcz8_1);(try clear hcz8_2);(try clear hcz8_3);(try clear hcz8_4);(try clear hfz10_0);(try clear hfz10_1);(try clear hfz10_2);(try clear hfz10_3);(try clear hfz10_4);(try clear hfz12_0);(try clear hfz12_1);(try clear hfz12_2);(try clear hfz12_3);(try clear hfz12_4);(try clear hfz17_0);(try clear hfz17_1);(try clear hfz17_2);(try clear hfz17_3);(try clear hfz17_4);(try clear hfz21_0);(try clear hfz21_1);(try clear hfz21_2);(try clear hfz21_3);(try clear hfz21_4);(try clear hfz26_0);(try clear hfz26_1);(try clear hfz26_2);(try clear hfz26_3);(try clear hfz26_4);(try clear hfz8_0);(try clear hfz8_1);(try clear hfz8_2);(try clear hfz8_3);(try clear hfz8_4);(try clear p2)
     obtain ⟨kq, x3_19, rfl, HA, HJ19, BK170, HB⟩ := hcut
     cases kq with
     | zero => exact absurd HA.out (by simp [curtilageref08_Text.j1])
     | succ kj19 =>
      have H := HA.out
      clear HA
      simp only [curtilageref08_Text.j1] at H
      replace H := Qi H
      obtain ⟨t177, A280, H⟩ := H
      try dsimp only at H
      have A28 := Q4 A280
      clear A280
      have HC29 := Q4 H
      clear H
      have hcz30_0 : wc.cell? ⟨gb170, 0, none⟩ = some (.int .i64 a0_0) := (Qe BK170.out 0).trans rfl
      have hcz30_1 : wc.cell? ⟨gb170, 1, none⟩ = some (.int .i64 a0_1) := (Qe BK170.out 1).trans rfl
      have hcz30_2 : wc.cell? ⟨gb170, 2, none⟩ = some (.int .i64 a0_2) := (Qe BK170.out 2).trans rfl
      have hcz30_3 : wc.cell? ⟨gb170, 3, none⟩ = some (.int .i64 a0_3) := (Qe BK170.out 3).trans rfl
      have hcz30_4 : wc.cell? ⟨gb170, 4, none⟩ = some (.int .i32 a0_4) := (Qe BK170.out 4).trans rfl
      have hfz30_0 := Qd BK170.out 0
      have hfz30_1 := Qd BK170.out 1
      have hfz30_2 := Qd BK170.out 2
      have hfz30_3 := Qd BK170.out 3
      have hfz30_4 := Qd BK170.out 4
      go_upto_if 30 with (first|((with_reducible refine gate_callee (f := 61) rfl ?_); refine gL (some 30) Tryz.func61 #[.int .i64 a0_0, .int .u8 99] ?_; (with_reducible refine (curtilageref08_uses.calls kj19 a0_0 99 t177 _ A28.out).mono ?_); rintro e w' ⟨rfl, ⟨nd, rfl⟩⟩; refine ⟨_, rfl, ?_⟩))
      (try simp only [Act.put, Q1,Q2,Q3])
      go_cut [3] (fun v3 wc => ∃ (kq : Nat) (x3_28 : ByteArray), v3 = .string x3_28 ∧ Aside0 (curtilageref08_Text.j2 kq x3_28 a0_0 a0_1 a0_2 a0_3 a0_4 = some r) ∧ Aside0 (kq ≤ kj19) ∧ Aside0 (wc.heap[gb170]? = some (.cells #[.int .i64 a0_0, .int .i64 a0_1, .int .i64 a0_2, .int .i64 a0_3, .int .i32 a0_4] 38 (0, 0))) ∧ Aside0 (Below w.heap.size w wc))
      case first =>
       have H := HC29.out
       clear HC29
       by_cases c31 : t177 = true
       ·subst c31
        rw [if_pos rfl] at H
        by_cases c32 : x3_19.size + 2 ≤ 9223372036854775807
        ·rw [if_pos c32] at H
         have c32b0 := eq_true c32
         have c32b1 : decide (x3_19.size + 2 ≤ 9223372036854775807) = true := Qj c32
         try have c32b2 : (9223372036854775807 < x3_19.size + 2) = False := eq_false (Nat.not_lt.2 c32)
         replace H := Qi H
         obtain ⟨t178, A330, H⟩ := H
         try dsimp only at H
         have A33 := Q4 A330
         clear A330
         by_cases c34 : (x3_19 ++ (⟨#[32, 114]⟩ : ByteArray)).size + t178.size ≤ 9223372036854775807
         ·rw [if_pos c34] at H
          try have c34z : (9223372036854775807 < x3_19.size + 2 + t178.size) = False := eq_false (Nat.not_lt.2 (by have h0 := c34; simp only [ByteArray.size_append] at h0; exact h0))
          have c34b0 := eq_true c34
          have c34b1 : decide ((x3_19 ++ (⟨#[32, 114]⟩ : ByteArray)).size + t178.size ≤ 9223372036854775807) = true := Qj c34
          try have c34b2 : (9223372036854775807 < (x3_19 ++ (⟨#[32, 114]⟩ : ByteArray)).size + t178.size) = False := eq_false (Nat.not_lt.2 c34)
          have H' := Q4 H
          clear H
          have hcz35_0 : wc.cell? ⟨gb170, 0, none⟩ = some (.int .i64 a0_0) := (Qe BK170.out 0).trans rfl
          have hcz35_1 : wc.cell? ⟨gb170, 1, none⟩ = some (.int .i64 a0_1) := (Qe BK170.out 1).trans rfl
          have hcz35_2 : wc.cell? ⟨gb170, 2, none⟩ = some (.int .i64 a0_2) := (Qe BK170.out 2).trans rfl
          have hcz35_3 : wc.cell? ⟨gb170, 3, none⟩ = some (.int .i64 a0_3) := (Qe BK170.out 3).trans rfl
          have hcz35_4 : wc.cell? ⟨gb170, 4, none⟩ = some (.int .i32 a0_4) := (Qe BK170.out 4).trans rfl
          have hfz35_0 := Qd BK170.out 0
          have hfz35_1 := Qd BK170.out 1
          have hfz35_2 := Qd BK170.out 2
          have hfz35_3 := Qd BK170.out 3
          have hfz35_4 := Qd BK170.out 4
          go_wp2_with (first|((with_reducible refine gate_callee (f := 62) rfl ?_); refine gL (some 35) Tryz.func62 #[.int .i64 a0_3] ?_; (with_reducible refine (curtilageref08_Digits.calls kj19 a0_3 t178 _ A33.out).mono ?_); rintro e w36 ⟨rfl, hb⟩; refine ⟨_, rfl, ?_⟩; have n0_ := Q4 (Qo (g := gb170) (o := .cells #[.int .i64 a0_0, .int .i64 a0_1, .int .i64 a0_2, .int .i64 a0_3, .int .i32 a0_4] 38 (0, 0)) (bK BK170) hb); have n1_ := Q4 (Qg (by repeat (first|(with_reducible first|exact HB.out|apply Q8|apply Q5|apply Q9|refine Q6 ?_ GE170.out)|exact HB.out)) hb); clear BK170; clear HB; have BK170 := n0_; have HB := n1_; clear n0_ n1_;(try clear hb);(try clear hb2);(try clear hk);(try clear hi)))
          go_meet
          case rel => exact ⟨_, ((x3_19 ++ (⟨#[32, 114]⟩ : ByteArray)) ++ t178), (by first|rfl|(simp; done)|(simp [*]; done)), H', ⟨by have := HJ5.out; have := HJ19.out; first|omega|exact Nat.le_refl _⟩, ⟨by (with_reducible repeat (first|refine Qa ?_ _|refine Qb ?_|refine Q7 ?_ _)); exact BK170.out⟩, ⟨by repeat (first|(with_reducible first|exact HB.out|apply Q8|apply Q5|apply Q9|refine Q6 ?_ GE170.out)|exact HB.out)⟩⟩
         ·rw [if_neg c34] at H
          exact absurd H (by simp)
        ·rw [if_neg c32] at H
         exact absurd H (by simp)
       ·replace c31 := Bool.eq_false_iff.mpr c31
        subst c31
        rw [if_neg (show ¬ (false = true) by decide)] at H
        have H' := Q4 H
        clear H
        go_wp2
        go_meet
        case rel => exact ⟨_, (x3_19), (by first|rfl|(simp; done)|(simp [*]; done)), H', ⟨by have := HJ5.out; have := HJ19.out; first|omega|exact Nat.le_refl _⟩, ⟨by (with_reducible repeat (first|refine Qa ?_ _|refine Qb ?_|refine Q7 ?_ _)); exact BK170.out⟩, ⟨by repeat (first|(with_reducible first|exact HB.out|apply Q8|apply Q5|apply Q9|refine Q6 ?_ GE170.out)|exact HB.out)⟩⟩
      case rest =>
       clear HC29
       (try clear c1);(try clear c2);(try clear p2);(try clear c3);(try clear c4);(try clear c6);(try clear c13);(try clear c14);(try clear c14b0);(try clear c14b1);(try clear c14b2);(try clear c16);(try clear c16b0);(try clear c16b1);(try clear c16b2);(try clear c22);(try clear c23);(try clear c23b0);(try clear c23b1);(try clear c23b2);(try clear c25);(try clear c25b0);(try clear c25b1);(try clear c25b2);(try clear c31);(try clear c32);(try clear c32b0);(try clear c32b1);(try clear c32b2);(try clear c34);(try clear c34b0);(try clear c34b1);(try clear c34b2);(try clear hcz10_0);(try clear hcz10_1);(try clear hcz10_2);(try clear hcz10_3);(try clear hcz10_4);(try clear hcz12_0);(try clear hcz12_1);(try clear hcz12_2);(try clear hcz12_3);(try clear hcz12_4);(try clear hcz17_0);(try clear hcz17_1);(try clear hcz17_2);(try clear hcz17_3);(try clear hcz17_4);(try clear hcz21_0);(try clear hcz21_1);(try clear hcz21_2);(try clear hcz21_3);(try clear hcz21_4);(try clear hcz26_0);(try clear hcz26_1);(try clear hcz26_2);(try clear hcz26_3);(try clear hcz26_4);(try clear hcz30_0);(try clear hcz30_1);(try clear hcz30_2);(try clear hcz30_3);(try clear hcz30_4);(try clear hcz35_0);(try clear hcz35_1);(try clear hcz35_2);(try clear hcz35_3);(try clear hcz35_4);(try clear hcz8_0);(try clear hcz8_1);(try clear hcz8_2);(try clear hcz8_3);(try clear hcz8_4);(try clear hfz10_0);(try clear hfz10_1);(try clear hfz10_2);(try clear hfz10_3);(try clear hfz10_4);(try clear hfz12_0);(try clear hfz12_1);(try clear hfz12_2);(try clear hfz12_3);(try clear hfz12_4);(try clear hfz17_0);(try clear hfz17_1);(try clear hfz17_2);(try clear hfz17_3);(try clear hfz17_4);(try clear hfz21_0);(try clear hfz21_1);(try clear hfz21_2);(try clear hfz21_3);(try clear hfz21_4);(try clear hfz26_0);(try clear hfz26_1);(try clear hfz26_2);(try clear hfz26_3);(try clear hfz26_4);(try clear hfz30_0);(try clear hfz30_1);(try clear hfz30_2);(try clear hfz30_3);(try clear hfz30_4);(try clear hfz35_0);(try clear hfz35_1);(try clear hfz35_2);(try clear hfz35_3);(try clear hfz35_4);(try clear hfz8_0);(try clear hfz8_1);(try clear hfz8_2);(try clear hfz8_3);(try clear hfz8_4);(try clear p2)
       obtain ⟨kq, x3_28, rfl, HA, HJ28, BK170, HB⟩ := hcut
       cases kq with
       | zero => exact absurd HA.out (by simp [curtilageref08_Text.j2])
       | succ kj28 =>
        have H := HA.out
        clear HA
        simp only [curtilageref08_Text.j2] at H
        replace H := Qi H
        obtain ⟨t179, A370, H⟩ := H
        try dsimp only at H
        have A37 := Q4 A370
        clear A370
        by_cases c38 : t179 = true
        ·subst c38
         rw [if_pos rfl] at H
         by_cases c39 : x3_28.size + 1 ≤ 9223372036854775807
         ·rw [if_pos c39] at H
          have c39b0 := eq_true c39
          have c39b1 : decide (x3_28.size + 1 ≤ 9223372036854775807) = true := Qj c39
          try have c39b2 : (9223372036854775807 < x3_28.size + 1) = False := eq_false (Nat.not_lt.2 c39)
          replace H := Qi H
          obtain ⟨t180, A400, H⟩ := H
          try dsimp only at H
          have A40 := Q4 A400
          clear A400
          by_cases c41 : (x3_28 ++ (⟨#[32]⟩ : ByteArray)).size + t180.size ≤ 9223372036854775807
          ·rw [if_pos c41] at H
           try have c41z : (9223372036854775807 < x3_28.size + 1 + t180.size) = False := eq_false (Nat.not_lt.2 (by have h0 := c41; simp only [ByteArray.size_append] at h0; exact h0))
           have c41b0 := eq_true c41
           have c41b1 : decide ((x3_28 ++ (⟨#[32]⟩ : ByteArray)).size + t180.size ≤ 9223372036854775807) = true := Qj c41
           try have c41b2 : (9223372036854775807 < (x3_28 ++ (⟨#[32]⟩ : ByteArray)).size + t180.size) = False := eq_false (Nat.not_lt.2 c41)
           obtain rfl := Qn H
           have hcz42_0 : wc.cell? ⟨gb170, 0, none⟩ = some (.int .i64 a0_0) := (Qe BK170.out 0).trans rfl
           have hcz42_1 : wc.cell? ⟨gb170, 1, none⟩ = some (.int .i64 a0_1) := (Qe BK170.out 1).trans rfl
           have hcz42_2 : wc.cell? ⟨gb170, 2, none⟩ = some (.int .i64 a0_2) := (Qe BK170.out 2).trans rfl
           have hcz42_3 : wc.cell? ⟨gb170, 3, none⟩ = some (.int .i64 a0_3) := (Qe BK170.out 3).trans rfl
           have hcz42_4 : wc.cell? ⟨gb170, 4, none⟩ = some (.int .i32 a0_4) := (Qe BK170.out 4).trans rfl
           have hfz42_0 := Qd BK170.out 0
           have hfz42_1 := Qd BK170.out 1
           have hfz42_2 := Qd BK170.out 2
           have hfz42_3 := Qd BK170.out 3
           have hfz42_4 := Qd BK170.out 4
           go_wp2_with (first|((with_reducible refine gate_callee (f := 61) rfl ?_); refine gL (some 39) Tryz.func61 #[.int .i64 a0_0, .int .u8 105] ?_; (with_reducible refine (curtilageref08_uses.calls kj28 a0_0 105 true _ A37.out).mono ?_); rintro e w' ⟨rfl, ⟨nd, rfl⟩⟩; refine ⟨_, rfl, ?_⟩)|((with_reducible refine gate_callee (f := 62) rfl ?_); refine gL (some 45) Tryz.func62 #[.int .i64 (wrap64 (a0_4))] ?_; (with_reducible refine (curtilageref08_Digits.calls kj28 (wrap64 (a0_4)) t180 _ A40.out).mono ?_); rintro e w43 ⟨rfl, hb⟩; refine ⟨_, rfl, ?_⟩; have n0_ := Q4 (Qo (g := gb170) (o := .cells #[.int .i64 a0_0, .int .i64 a0_1, .int .i64 a0_2, .int .i64 a0_3, .int .i32 a0_4] 38 (0, 0)) (bK BK170) hb); have n1_ := Q4 (Qg (by repeat (first|(with_reducible first|exact HB.out|apply Q8|apply Q5|apply Q9|refine Q6 ?_ GE170.out)|exact HB.out)) hb); clear BK170; clear HB; have BK170 := n0_; have HB := n1_; clear n0_ n1_;(try clear hb);(try clear hb2);(try clear hk);(try clear hi)))
           go_ret
           exact ⟨by first|rfl|(simp [errW_none, errW_some] <;> rfl)|(simp [*, errW_none, errW_some] <;> rfl), by repeat (first|(with_reducible first|exact HB.out|apply Q8|apply Q5|apply Q9|refine Q6 ?_ GE170.out)|exact HB.out)⟩
          ·rw [if_neg c41] at H
           exact absurd H (by simp)
         ·rw [if_neg c39] at H
          exact absurd H (by simp)
        ·replace c38 := Bool.eq_false_iff.mpr c38
         subst c38
         rw [if_neg (show ¬ (false = true) by decide)] at H
         obtain rfl := Qn H
         have hcz44_0 : wc.cell? ⟨gb170, 0, none⟩ = some (.int .i64 a0_0) := (Qe BK170.out 0).trans rfl
         have hcz44_1 : wc.cell? ⟨gb170, 1, none⟩ = some (.int .i64 a0_1) := (Qe BK170.out 1).trans rfl
         have hcz44_2 : wc.cell? ⟨gb170, 2, none⟩ = some (.int .i64 a0_2) := (Qe BK170.out 2).trans rfl
         have hcz44_3 : wc.cell? ⟨gb170, 3, none⟩ = some (.int .i64 a0_3) := (Qe BK170.out 3).trans rfl
         have hcz44_4 : wc.cell? ⟨gb170, 4, none⟩ = some (.int .i32 a0_4) := (Qe BK170.out 4).trans rfl
         have hfz44_0 := Qd BK170.out 0
         have hfz44_1 := Qd BK170.out 1
         have hfz44_2 := Qd BK170.out 2
         have hfz44_3 := Qd BK170.out 3
         have hfz44_4 := Qd BK170.out 4
         go_wp2_with (first|((with_reducible refine gate_callee (f := 61) rfl ?_); refine gL (some 39) Tryz.func61 #[.int .i64 a0_0, .int .u8 105] ?_; (with_reducible refine (curtilageref08_uses.calls kj28 a0_0 105 false _ A37.out).mono ?_); rintro e w' ⟨rfl, ⟨nd, rfl⟩⟩; refine ⟨_, rfl, ?_⟩))
         go_ret
         exact ⟨by first|rfl|(simp [errW_none, errW_some] <;> rfl)|(simp [*, errW_none, errW_some] <;> rfl), by repeat (first|(with_reducible first|exact HB.out|apply Q8|apply Q5|apply Q9|refine Q6 ?_ GE170.out)|exact HB.out)⟩
 ·replace c3 := Bool.eq_false_iff.mpr c3
  subst c3
  rw [if_neg (show ¬ (false = true) by decide)] at H
  obtain rfl := Qn H
  go_enter Tryz.func34, Tryz.ntmps34
  go_wp2_with (first|((with_reducible refine gate_dst (N := 1) rfl ?_); refine box_event ?hg (N := 1) ?hd (cs := #[.int .i64 a0_0, .int .i64 a0_1, .int .i64 a0_2, .int .i64 a0_3, .int .i32 a0_4]) (t := 38) ?hr ?_; (case hd => rfl); (case hg => rfl); (case hr => first|(go_simp; done)|(go_simp; rfl)); intro gb170 hg w45 hbox hb; have n0_ := Q4 (Qg (by repeat (first|(with_reducible first|exact HB.out|apply Q8|apply Q5|apply Q9)|exact HB.out)) hb); have n1_ := Q4 (hbox); have n2_ := Q4 ((by rw [hg]; exact bZ : w.heap.size ≤ gb170)); have n3_ := Q4 ((by rw [hg]; exact bZ : w.heap.size ≤ gb170)); clear HB; have HB := n0_; have BK170 := n1_; have GW170 := n2_; have GE170 := n3_; clear n0_ n1_ n2_ n3_; clear hb hbox hg; have hcz46_0 : w45.cell? ⟨gb170, 0, none⟩ = some (.int .i64 a0_0) := (Qe BK170.out 0).trans rfl; have hcz46_1 : w45.cell? ⟨gb170, 1, none⟩ = some (.int .i64 a0_1) := (Qe BK170.out 1).trans rfl; have hcz46_2 : w45.cell? ⟨gb170, 2, none⟩ = some (.int .i64 a0_2) := (Qe BK170.out 2).trans rfl; have hcz46_3 : w45.cell? ⟨gb170, 3, none⟩ = some (.int .i64 a0_3) := (Qe BK170.out 3).trans rfl; have hcz46_4 : w45.cell? ⟨gb170, 4, none⟩ = some (.int .i32 a0_4) := (Qe BK170.out 4).trans rfl; have hfz46_0 := Qd BK170.out 0; have hfz46_1 := Qd BK170.out 1; have hfz46_2 := Qd BK170.out 2; have hfz46_3 := Qd BK170.out 3; have hfz46_4 := Qd BK170.out 4)|((with_reducible refine gate_callee (f := 46) rfl ?_); refine gL (some 5) Tryz.func46 #[.agg #[.int .i64 a0_0, .int .i64 a0_1, .int .i64 a0_2, .int .i64 a0_3, .int .i32 a0_4]] ?_; (with_reducible refine (curtilageref08_Fit.calls k a0_0 a0_1 a0_2 a0_3 a0_4 false _ A2.out).mono ?_); rintro e w47 ⟨rfl, hb⟩; refine ⟨_, rfl, ?_⟩; have n0_ := Q4 (Qo (g := gb170) (o := .cells #[.int .i64 a0_0, .int .i64 a0_1, .int .i64 a0_2, .int .i64 a0_3, .int .i32 a0_4] 38 (0, 0)) (bK BK170) hb); have n1_ := Q4 (Qg (by repeat (first|(with_reducible first|exact HB.out|apply Q8|apply Q5|apply Q9|refine Q6 ?_ GE170.out)|exact HB.out)) hb); clear BK170; clear HB; have BK170 := n0_; have HB := n1_; clear n0_ n1_;(try clear hb);(try clear hb2);(try clear hk);(try clear hi)))
  go_ret
  exact ⟨by first|rfl|(simp [errW_none, errW_some] <;> rfl)|(simp [*, errW_none, errW_some] <;> rfl), by repeat (first|(with_reducible first|exact HB.out|apply Q8|apply Q5|apply Q9|refine Q6 ?_ GE170.out)|exact HB.out)⟩

/-! ### curtilageref10_register: function 36 -/
def curtilageref10_register.l0 : Nat → ByteArray → Int → Option (Int)
 | 0, _, _ => none
 | k + 1, x0, x3 => if x3 < 16 then ((curtilageref08_Digits.f k x3).bind fun t181 => (if 1 + t181.size ≤ 9223372036854775807 then (if ((⟨#[114]⟩ : ByteArray) ++ t181).toList = x0.toList then (some x3) else (curtilageref10_register.l0 k x0 (wrap64 (x3 + 1)))) else (none))) else (some (-1))
def curtilageref10_register.f (k : Nat) (a0 : ByteArray) : Option (Int) := curtilageref10_register.l0 k a0 0
set_option maxHeartbeats 8000000 in
set_option maxRecDepth 100000 in
theorem curtilageref10_register.calls (k : Nat) (a0 : ByteArray) (r : Int) (w : World) (h : curtilageref10_register.f k a0 = some r) :
  Calls Tryz.prog 36 #[.string a0] w fun e w' => e = .returned (.int .i64 r) ∧ Below w.heap.size w w' := by
 have HB := Q4 (Below.refl w.heap.size w)
 have H : (curtilageref10_register.l0 k a0 0) = some r := h
 clear h
 have H' := Q4 H
 clear H
 go_enter Tryz.func36, Tryz.ntmps36
 go_wp2
 go_loopg [3] k (fun kq v3 w' => ∃ (x3_1 : Int), v3 = .int .i64 x3_1 ∧ Aside0 (curtilageref10_register.l0 kq a0 x3_1 = some r) ∧ Aside0 (kq ≤ k) ∧ Aside0 (Below w.heap.size w w'))
 case atStart => exact ⟨(0), (by first|rfl|(simp; done)|(simp [*]; done)), H', ⟨Nat.le_refl _⟩, ⟨by repeat (first|(with_reducible first|exact HB.out|apply Q8|apply Q5|apply Q9)|exact HB.out)⟩⟩
 case round =>
  clear H'
  obtain ⟨x3_1, rfl, HA, HK1, HB⟩ := hrel
  cases gk with
  | zero => exact absurd HA.out (by simp [curtilageref10_register.l0])
  | succ k1 =>
   have H := HA.out
   clear HA
   simp only [curtilageref10_register.l0] at H
   by_cases c2 : x3_1 < 16
   ·rw [if_pos c2] at H
    have c2b0 : decide (x3_1 < 16) = true := Qj c2
    clear c2
    replace H := Qi H
    obtain ⟨t181, A30, H⟩ := H
    try dsimp only at H
    have A3 := Q4 A30
    clear A30
    by_cases c4 : 1 + t181.size ≤ 9223372036854775807
    ·rw [if_pos c4] at H
     have c4b0 := eq_true c4
     have c4b1 : decide (1 + t181.size ≤ 9223372036854775807) = true := Qj c4
     try have c4b2 : (9223372036854775807 < 1 + t181.size) = False := eq_false (Nat.not_lt.2 c4)
     by_cases c5 : ((⟨#[114]⟩ : ByteArray) ++ t181).toList = a0.toList
     ·rw [if_pos c5] at H
      have c5b0 : (((⟨#[114]⟩ : ByteArray) ++ t181).toList == a0.toList) = true := Qm c5
      have c5b1 : (((⟨#[114]⟩ : ByteArray) ++ t181).toList != a0.toList) = false := Qh c5
      clear c5
      obtain rfl := Qn H
      go_wp2_with (first|((with_reducible refine gate_callee (f := 62) rfl ?_); refine gL (some 9) Tryz.func62 #[.int .i64 x3_1] ?_; (with_reducible refine (curtilageref08_Digits.calls k1 x3_1 t181 _ A3.out).mono ?_); rintro e w6 ⟨rfl, hb⟩; refine ⟨_, rfl, ?_⟩; have n0_ := Q4 (Qg (by repeat (first|(with_reducible first|exact HB.out|apply Q8|apply Q5|apply Q9)|exact HB.out)) hb); clear HB; have HB := n0_; clear n0_;(try clear hb);(try clear hb2);(try clear hk);(try clear hi)))
      go_ret
      exact ⟨by first|rfl|(simp [errW_none, errW_some] <;> rfl)|(simp [*, errW_none, errW_some] <;> rfl), by repeat (first|(with_reducible first|exact HB.out|apply Q8|apply Q5|apply Q9)|exact HB.out)⟩
     ·rw [if_neg c5] at H
      have c5b0 : (((⟨#[114]⟩ : ByteArray) ++ t181).toList == a0.toList) = false := Qk c5
      have c5b1 : (((⟨#[114]⟩ : ByteArray) ++ t181).toList != a0.toList) = true := Ql c5
      have H' := Q4 H
      clear H
      go_wp2_with (first|((with_reducible refine gate_callee (f := 62) rfl ?_); refine gL (some 9) Tryz.func62 #[.int .i64 x3_1] ?_; (with_reducible refine (curtilageref08_Digits.calls k1 x3_1 t181 _ A3.out).mono ?_); rintro e w7 ⟨rfl, hb⟩; refine ⟨_, rfl, ?_⟩; have n0_ := Q4 (Qg (by repeat (first|(with_reducible first|exact HB.out|apply Q8|apply Q5|apply Q9)|exact HB.out)) hb); clear HB; have HB := n0_; clear n0_;(try clear hb);(try clear hb2);(try clear hk);(try clear hi)))
      go_roundg k1
      case measure => have := HK1.out; omega
      case rel => exact ⟨(wrap64 (x3_1 + 1)), (by first|rfl|(simp; done)|(simp [*]; done)), H', ⟨by have := HK1.out; omega⟩, ⟨by repeat (first|(with_reducible first|exact HB.out|apply Q8|apply Q5|apply Q9)|exact HB.out)⟩⟩
    ·rw [if_neg c4] at H
     exact absurd H (by simp)
   ·rw [if_neg c2] at H
    have c2b0 : decide (x3_1 < 16) = false := decide_eq_false c2
    clear c2
    obtain rfl := Qn H
    go_wp2
    go_ret
    exact ⟨by first|rfl|(simp [errW_none, errW_some] <;> rfl)|(simp [*, errW_none, errW_some] <;> rfl), by repeat (first|(with_reducible first|exact HB.out|apply Q8|apply Q5|apply Q9)|exact HB.out)⟩

end Go.Proofs.YtbelnkdbghggmaaGreatDoor.X
namespace Go.Proofs.YtbelnkdbghggmaaGreatDoor.X
open Go.RowKit Go.Proofs.YtbelnkdbghggmaaGreatDoorW.PrintWords
set_option linter.unusedVariables false
set_option linter.unusedSimpArgs false
theorem rShape10 (op : Int) : curtilageref08_Shape.f 10 op = some (shapeOf op) := by
  by_cases h : 0 ≤ op ∧ op < 26
  · obtain ⟨n, rfl⟩ : ∃ n : Nat, op = (n : Int) := ⟨op.toNat, by omega⟩
    have key : ∀ n : Fin 26, curtilageref08_Shape.f 10 (n.1 : Int) = some (shapeOf (n.1 : Int)) := by decide +kernel
    exact key ⟨n, by omega⟩
  · have hs : shapeOf op = ByteArray.empty := by unfold shapeOf; rw [if_neg h]
    have ne : ∀ k : Int, 0 ≤ k → k < 26 → (op == k) = false ∧ ¬ op = k := fun k h0 h1 => by
      have : ¬ op = k := by omega
      exact ⟨by simp [this], this⟩
    rw [hs]
    simp only [curtilageref08_Shape.f, curtilageref08_Shape.j0, curtilageref08_Shape.j1, curtilageref08_Shape.j2, (ne 1 (by decide) (by decide)).1, (ne 1 (by decide) (by decide)).2, (ne 2 (by decide) (by decide)).1, (ne 2 (by decide) (by decide)).2, (ne 3 (by decide) (by decide)).2, (ne 4 (by decide) (by decide)).2, (ne 5 (by decide) (by decide)).2, (ne 6 (by decide) (by decide)).2, (ne 7 (by decide) (by decide)).2, (ne 8 (by decide) (by decide)).2, (ne 9 (by decide) (by decide)).2, (ne 10 (by decide) (by decide)).2, (ne 11 (by decide) (by decide)).2, (ne 12 (by decide) (by decide)).2, (ne 13 (by decide) (by decide)).2, (ne 14 (by decide) (by decide)).1, (ne 14 (by decide) (by decide)).2, (ne 15 (by decide) (by decide)).2, (ne 16 (by decide) (by decide)).2, (ne 17 (by decide) (by decide)).2, (ne 18 (by decide) (by decide)).1, (ne 18 (by decide) (by decide)).2, (ne 19 (by decide) (by decide)).1, (ne 19 (by decide) (by decide)).2, (ne 20 (by decide) (by decide)).1, (ne 20 (by decide) (by decide)).2, (ne 21 (by decide) (by decide)).1, (ne 22 (by decide) (by decide)).2, (ne 23 (by decide) (by decide)).1, (ne 23 (by decide) (by decide)).2, (ne 24 (by decide) (by decide)).1, (ne 25 (by decide) (by decide)).1, if_false, Bool.false_eq_true]
    rfl
theorem rUses10 (n : Nat) (hn : n < 26) (k : Nat) (hk : k < 4) : curtilageref08_uses.f 10 (n : Int) (letter k) = some (uses (n : Int) k) := by
  have key : ∀ (n : Fin 26) (k : Fin 4), curtilageref08_uses.f 10 (n.1 : Int) (letter k.1) = some (uses (n.1 : Int) k.1) := by decide +kernel
  exact key ⟨n, hn⟩ ⟨k, hk⟩
theorem rReg (a : Int) (u : Bool) : curtilageref08_register.f a u = some (!((!u && (a != 0)) || (decide (a < 0) || decide (a ≥ 16)))) := by
  unfold curtilageref08_register.f
  by_cases h0 : a = 0
  · subst h0; cases u <;> rfl
  · rw [if_neg h0]
    have h1 : (a != 0) = true := by simp [h0]
    cases u
    · rw [if_neg (by decide), h1]; rfl
    · rw [if_pos rfl]
      by_cases h2 : a > 0
      · rw [if_pos h2, decide_eq_false (show ¬ a < 0 by omega)]
        simp
        by_cases h3 : a < 16
        · simp [h3]
        · simp [h3]; omega
      · rw [if_neg h2, decide_eq_true (show a < 0 by omega)]
        simp
theorem rFit10 (op a b c e : Int) : curtilageref08_Fit.f 10 op a b c e = some (fitB op a b c e) := by
  unfold curtilageref08_Fit.f fitB
  by_cases h0 : op ≥ 0
  · rw [if_pos h0]
    by_cases h1 : op < 26
    · rw [if_pos h1, decide_eq_true (And.intro h0 h1), Bool.true_and, fitP_iff]
      obtain ⟨n, rfl⟩ : ∃ n : Nat, op = (n : Int) := ⟨op.toNat, by omega⟩
      have hu := fun k hk => rUses10 n (by omega) k hk
      have b0 : bad (n : Int) a b c e 0 = ((!(uses n 0) && (a != 0)) || (decide (a < 0) || decide (a ≥ 16))) := rfl
      have b1 : bad (n : Int) a b c e 1 = ((!(uses n 1) && (b != 0)) || (decide (b < 0) || decide (b ≥ 16))) := rfl
      have b2 : bad (n : Int) a b c e 2 = ((!(uses n 2) && (c != 0)) || (decide (c < 0) || decide (c ≥ 16))) := rfl
      have b3 : bad (n : Int) a b c e 3 = (!(uses n 3) && (e != 0)) := by unfold bad num letter; simp
      rw [show (97 : Int) = letter 0 from rfl, hu 0 (by decide), show (98 : Int) = letter 1 from rfl, hu 1 (by decide), show (99 : Int) = letter 2 from rfl, hu 2 (by decide), show (105 : Int) = letter 3 from rfl, hu 3 (by decide)]
      simp only [Option.bind_some, rReg]
      rw [← b0, ← b1, ← b2, b3]
      cases bad (n : Int) a b c e 0 <;> cases bad (n : Int) a b c e 1 <;> cases bad (n : Int) a b c e 2 <;> cases uses (n : Int) 3 <;> by_cases he : e = 0 <;> simp [he]
    · rw [if_neg h1, decide_eq_false (by omega)]; rfl
  · rw [if_neg h0, decide_eq_false (by omega)]; rfl
theorem rShape (K : Nat) (hK : 10 ≤ K) (op : Int) : curtilageref08_Shape.f K op = some (shapeOf op) := at_rounds (curtilageref08_Shape.mono op) hK (rShape10 op)
theorem rUses (K : Nat) (hK : 10 ≤ K) (n : Nat) (hn : n < 26) (k : Nat) (hk : k < 4) : curtilageref08_uses.f K (n : Int) (letter k) = some (uses (n : Int) k) := at_rounds (curtilageref08_uses.mono _ _) hK (rUses10 n hn k hk)
theorem rFit (K : Nat) (hK : 10 ≤ K) (op a b c e : Int) : curtilageref08_Fit.f K op a b c e = some (fitB op a b c e) := at_rounds (curtilageref08_Fit.mono _ _ _ _ _) hK (rFit10 op a b c e)
end Go.Proofs.YtbelnkdbghggmaaGreatDoor.X
namespace Go.Proofs.YtbelnkdbghggmaaGreatDoor.X
open Go.RowKit Go.Proofs.YtbelnkdbghggmaaGreatDoorW.PrintWords
set_option linter.unusedVariables false
set_option linter.unusedSimpArgs false
def dgB (u : Nat) : ByteArray := ⟨(Lib.decDigits u).toArray⟩
theorem ba_ext {a b : ByteArray} (h : a.data.toList = b.data.toList) : a = b := by
  cases a; cases b; congr; exact Array.toList_inj.1 h
theorem app_data (a b : ByteArray) : (a ++ b).data.toList = a.data.toList ++ b.data.toList := by simp [ByteArray.data_append]
theorem one_char (n : Nat) (h : n < 208) : strOfNums [(IntKind.u64.wrap (48 + (n : Int))) % 256] = ⟨#[UInt8.ofNat (48 + n)]⟩ := by
  have e : (IntKind.u64.wrap (48 + (n : Int))) % 256 = ((48 + n : Nat) : Int) := by rw [IntKind.wrap_u64]; omega
  rw [e]
  rfl
theorem rDigits_l (u : Nat) : ∀ (k : Nat) (s d : ByteArray), u < 18446744073709551616 → Lib.nDigits u ≤ k → s.size + Lib.nDigits u + d.size ≤ 9223372036854775807 → curtilageref08_Digits.l0 k s (u : Int) d = some (s ++ (dgB u ++ d)) := by
  induction u using Nat.strongRecOn with
  | _ u ih =>
    intro k s d hu hk hs
    have hp := Lib.nDigits_pos u
    obtain ⟨k, rfl⟩ : ∃ m, k = m + 1 := ⟨k - 1, by omega⟩
    simp only [curtilageref08_Digits.l0]
    by_cases h : (u : Int) ≥ 10
    · have hn : Lib.nDigits u = Lib.nDigits (u / 10) + 1 := Lib.nDigits_big (by omega)
      have hm : (u : Int).tmod 10 = ((u % 10 : Nat) : Int) := rfl
      have hd : IntKind.u64.wrap ((u : Int).tdiv 10) = ((u / 10 : Nat) : Int) := by
        rw [show (u : Int).tdiv 10 = ((u / 10 : Nat) : Int) from rfl, IntKind.wrap_u64]
        omega
      rw [if_pos h, hm, hd]
      simp only [Option.bind_some]
      rw [one_char (u % 10) (by omega)]
      have hz : (⟨#[UInt8.ofNat (48 + u % 10)]⟩ : ByteArray).size = 1 := rfl
      rw [if_pos (by rw [hz]; omega), ih (u / 10) (by omega) k s _ (by omega) (by omega) (by rw [ByteArray.size_append, hz]; omega)]
      have hdec : dgB u = dgB (u / 10) ++ ⟨#[UInt8.ofNat (48 + u % 10)]⟩ := by
        apply ba_ext
        rw [app_data]
        show Lib.decDigits u = Lib.decDigits (u / 10) ++ [UInt8.ofNat (48 + u % 10)]
        rw [Lib.decDigits, dif_neg (by omega)]
      rw [hdec]
      refine congrArg some (ba_ext ?_)
      simp only [app_data, List.append_assoc]
    · have hn : Lib.nDigits u = 1 := Lib.nDigits_small (by omega)
      rw [if_neg h]
      simp only [Option.bind_some]
      rw [one_char u (by omega)]
      have hz : (⟨#[UInt8.ofNat (48 + u)]⟩ : ByteArray).size = 1 := rfl
      rw [if_pos (by rw [hz]; omega), if_pos (by rw [ByteArray.size_append, hz]; omega)]
      have hdec : dgB u = ⟨#[UInt8.ofNat (48 + u)]⟩ := by
        apply ba_ext
        show Lib.decDigits u = [UInt8.ofNat (48 + u)]
        rw [Lib.decDigits, dif_pos (by omega)]
      rw [hdec]
      refine congrArg some (ba_ext ?_)
      simp only [app_data, List.append_assoc]
theorem rDigits (K : Nat) (hK : 30 ≤ K) (n : Int) (h0 : -9223372036854775808 ≤ n) (h1 : n ≤ 9223372036854775807) : curtilageref08_Digits.f K n = some (itoaB n) := by
  obtain ⟨K, rfl⟩ : ∃ m, K = m + 1 := ⟨K - 1, by omega⟩
  have e20 : ∀ u : Nat, u < 18446744073709551616 → Lib.nDigits u ≤ 20 := Lib.nDigits_le20
  unfold curtilageref08_Digits.f
  by_cases h : n < 0
  · obtain ⟨u, rfl⟩ : ∃ u : Nat, n = -(u : Int) := ⟨n.natAbs, by omega⟩
    have hw : IntKind.u64.wrap (-(IntKind.u64.wrap (-(u : Int)))) = (u : Int) := by rw [IntKind.wrap_u64, IntKind.wrap_u64]; omega
    have h20 := e20 u (by omega)
    rw [if_pos h, hw]
    simp only [curtilageref08_Digits.j0]
    rw [rDigits_l u K _ _ (by omega) (by omega) (by rw [show (⟨#[45]⟩ : ByteArray).size = 1 from rfl, show (⟨#[]⟩ : ByteArray).size = 0 from rfl]; omega)]
    refine congrArg some (ba_ext ?_)
    rw [app_data, app_data]
    unfold itoaB
    rw [Lib.itoa_neg u (by omega)]
    simp [dgB]
  · obtain ⟨u, rfl⟩ : ∃ u : Nat, n = (u : Int) := ⟨n.toNat, by omega⟩
    have hw : IntKind.u64.wrap (u : Int) = (u : Int) := by rw [IntKind.wrap_u64]; omega
    have h20 := e20 u (by omega)
    rw [if_neg h, hw]
    simp only [curtilageref08_Digits.j0]
    rw [rDigits_l u K _ _ (by omega) (by omega) (by rw [show (⟨#[]⟩ : ByteArray).size = 0 from rfl]; omega)]
    refine congrArg some (ba_ext ?_)
    rw [app_data, app_data]
    unfold itoaB
    rw [Lib.itoa_nonneg u]
    simp [dgB]
theorem rName (n : Nat) (hn : n < 26) : curtilageref08_name.f (n : Int) = some (nameN n) := by
  have key : ∀ n : Fin 26, curtilageref08_name.f (n.1 : Int) = some (nameN n.1) := by decide +kernel
  exact key ⟨n, hn⟩
theorem part_j {α : Type} (K : Nat) (hK : 30 ≤ K) (n : Nat) (hn : n < 26) (k : Nat) (hk : k < 4) (x : Int) (hx : -2147483648 ≤ x ∧ x ≤ 2147483647) (ld : ByteArray) (z : Nat) (hz : ld.size = z) (hz2 : z ≤ 2) (s : ByteArray) (hs : s.size ≤ 200) (g : ByteArray → Option α) :
    ((curtilageref08_uses.f K (n : Int) (letter k)).bind fun t => (if t = true then (if s.size + z ≤ 9223372036854775807 then ((curtilageref08_Digits.f K x).bind fun d => (if (s ++ ld).size + d.size ≤ 9223372036854775807 then g ((s ++ ld) ++ d) else none)) else none) else g s)) = g (if uses n k = true then s ++ (ld ++ itoaB x) else s) := by
  rw [rUses K (by omega) n hn k hk]
  simp only [Option.bind_some]
  by_cases h : uses n k = true
  · have sx := itoaB_size x (by omega) (by omega)
    rw [if_pos h, if_pos h, if_pos (by omega), rDigits K hK x (by omega) (by omega)]
    simp only [Option.bind_some]
    rw [if_pos (by rw [ByteArray.size_append]; omega)]
    congr 1
    apply ba_ext
    simp only [app_data, List.append_assoc]
  · rw [if_neg h, if_neg h]
theorem tsize (n a b c e : Int) (k : Nat) (h : -2147483648 ≤ num a b c e k ∧ num a b c e k ≤ 2147483647) (s : ByteArray) (m : Nat) (hs : s.size ≤ m) : (tstep n a b c e s k).size ≤ m + 23 := by
  have hz := itoaB_size (num a b c e k) (by omega) (by omega)
  unfold tstep
  split
  · split
    · rw [ByteArray.size_append, ByteArray.size_append, show (⟨#[32]⟩ : ByteArray).size = 1 from rfl]; omega
    · rw [ByteArray.size_append, ByteArray.size_append, show (⟨#[32, 114]⟩ : ByteArray).size = 2 from rfl]; omega
  · omega
theorem rText (K : Nat) (hK : 40 ≤ K) (op a b c e : Int) (he : -2147483648 ≤ e ∧ e ≤ 2147483647) : curtilageref08_Text.f K op a b c e = some (if fitB op a b c e = true then textP op a b c e (List.range 4) else ByteArray.empty) := by
  unfold curtilageref08_Text.f
  rw [rFit K (by omega)]
  simp only [Option.bind_some]
  by_cases h : fitB op a b c e = true
  · rw [if_pos h, if_pos h]
    obtain ⟨h0, h1, h2, h3, h4, h5, h6, h7⟩ := fitB_regs h
    obtain ⟨n, rfl⟩ : ∃ n : Nat, op = (n : Int) := ⟨op.toNat, by omega⟩
    have hn : n < 26 := by omega
    have hnm := name_size n
    have hw : wrap64 e = e := by unfold wrap64; omega
    rw [rName n hn]
    simp only [Option.bind_some]
    have htx : textP (n : Int) a b c e (List.range 4) = tstep n a b c e (tstep n a b c e (tstep n a b c e (tstep n a b c e (nameN n) 0) 1) 2) 3 := rfl
    rw [htx]
    obtain ⟨K, rfl⟩ : ∃ m, K = m + 3 := ⟨K - 3, by omega⟩
    have q0 := part_j (K + 3) (by omega) n hn 0 (by decide) a (by omega) ⟨#[32, 114]⟩ 2 rfl (by omega) (nameN n) (by omega) (fun s => curtilageref08_Text.j0 (K + 3) s (n : Int) a b c e)
    have e0 : tstep n a b c e (nameN n) 0 = if uses n 0 = true then nameN n ++ ((⟨#[32, 114]⟩ : ByteArray) ++ itoaB a) else nameN n := rfl
    have z0 := tsize n a b c e 0 (by show _ ≤ a ∧ a ≤ _; omega) (nameN n) 8 (by omega)
    rw [← e0] at q0
    refine q0.trans ?_
    generalize tstep n a b c e (nameN n) 0 = s0 at z0 ⊢
    simp only [curtilageref08_Text.j0]
    have q1 := part_j (K + 2) (by omega) n hn 1 (by decide) b (by omega) ⟨#[32, 114]⟩ 2 rfl (by omega) s0 (by omega) (fun s => curtilageref08_Text.j1 (K + 2) s (n : Int) a b c e)
    have e1 : tstep n a b c e s0 1 = if uses n 1 = true then s0 ++ ((⟨#[32, 114]⟩ : ByteArray) ++ itoaB b) else s0 := rfl
    have z1 := tsize n a b c e 1 (by show _ ≤ b ∧ b ≤ _; omega) s0 31 (by omega)
    rw [← e1] at q1
    refine q1.trans ?_
    generalize tstep n a b c e s0 1 = s1 at z1 ⊢
    simp only [curtilageref08_Text.j1]
    have q2 := part_j (K + 1) (by omega) n hn 2 (by decide) c (by omega) ⟨#[32, 114]⟩ 2 rfl (by omega) s1 (by omega) (fun s => curtilageref08_Text.j2 (K + 1) s (n : Int) a b c e)
    have e2 : tstep n a b c e s1 2 = if uses n 2 = true then s1 ++ ((⟨#[32, 114]⟩ : ByteArray) ++ itoaB c) else s1 := rfl
    have z2 := tsize n a b c e 2 (by show _ ≤ c ∧ c ≤ _; omega) s1 54 (by omega)
    rw [← e2] at q2
    refine q2.trans ?_
    generalize tstep n a b c e s1 2 = s2 at z2 ⊢
    simp only [curtilageref08_Text.j2]
    rw [hw]
    have q3 := part_j K (by omega) n hn 3 (by decide) e (by omega) ⟨#[32]⟩ 1 rfl (by omega) s2 (by omega) (fun s => some s)
    have e3 : tstep n a b c e s2 3 = if uses n 3 = true then s2 ++ ((⟨#[32]⟩ : ByteArray) ++ itoaB e) else s2 := rfl
    rw [← e3] at q3
    exact q3
  · rw [if_neg h, if_neg h]
    rfl
end Go.Proofs.YtbelnkdbghggmaaGreatDoor.X
namespace Go.Proofs.YtbelnkdbghggmaaGreatDoor.X
set_option linter.unusedVariables false
set_option linter.unusedSimpArgs false
theorem ix_none (c : UInt8) : ∀ l : List UInt8, c ∉ l → Lib.index l [c] = -1
  | [], _ => rfl
  | b :: l, h => by
    have h1 : b ≠ c := fun e => h (by rw [e]; exact List.mem_cons_self)
    have h2 := ix_none c l fun k => h (List.mem_cons_of_mem _ k)
    have hp : ([c] : List UInt8).isPrefixOf (b :: l) = false := by simp [List.isPrefixOf, Ne.symm h1]
    rw [Lib.index, hp, h2]
    rfl
theorem ix_at (c : UInt8) (b : List UInt8) : ∀ a : List UInt8, c ∉ a → Lib.index (a ++ c :: b) [c] = (a.length : Int)
  | [], _ => by
    rw [List.nil_append, Lib.index]
    simp [List.isPrefixOf]
  | x :: a, h => by
    have h1 : x ≠ c := fun e => h (by rw [e]; exact List.mem_cons_self)
    have h2 := ix_at c b a fun k => h (List.mem_cons_of_mem _ k)
    have hp : ([c] : List UInt8).isPrefixOf (x :: (a ++ c :: b)) = false := by simp [List.isPrefixOf, Ne.symm h1]
    rw [List.cons_append, Lib.index, hp, h2, if_neg (by decide), if_neg (by intro k; have := beq_iff_eq.1 k; omega)]
    simp
theorem cut_none (c : UInt8) (l : List UInt8) (h : c ∉ l) : Lib.cut l [c] = (l, [], false) := by
  unfold Lib.cut
  rw [ix_none c l h, if_neg (by decide)]
theorem cut_at (c : UInt8) (a b : List UInt8) (h : c ∉ a) : Lib.cut (a ++ c :: b) [c] = (a, b, true) := by
  unfold Lib.cut
  rw [ix_at c b a h, if_pos (by omega)]
  simp
/-- Words with a blank ahead of each. -/
def joined : List (List UInt8) → List UInt8
  | [] => []
  | w :: r => 32 :: (w ++ joined r)
theorem joined_append (l m : List (List UInt8)) : joined (l ++ m) = joined l ++ joined m := by
  induction l with
  | nil => rfl
  | cons w r ih => simp [joined, ih]
theorem joined_count : ∀ (ws : List (List UInt8)), (∀ w ∈ ws, (32 : UInt8) ∉ w) → (joined ws).count 32 = ws.length
  | [], _ => rfl
  | w :: r, h => by
    have h1 : w.count 32 = 0 := List.count_eq_zero.2 (h w List.mem_cons_self)
    have h2 := joined_count r fun v hv => h v (List.mem_cons_of_mem _ hv)
    simp [joined, List.count_cons, List.count_append, h1, h2]
theorem splitK_joined : ∀ (ws : List (List UInt8)) (a : List UInt8), (32 : UInt8) ∉ a → (∀ w ∈ ws, (32 : UInt8) ∉ w) → Lib.splitK [32] 0 ws.length (a ++ joined ws) = a :: ws
  | [], a, _, _ => by simp [joined, Lib.splitK]
  | w :: r, a, ha, h => by
    have ih := splitK_joined r w (h w List.mem_cons_self) fun v hv => h v (List.mem_cons_of_mem _ hv)
    simp only [joined, List.length_cons, Lib.splitK]
    rw [ix_at 32 (w ++ joined r) a ha, if_neg (by intro k; have := beq_iff_eq.1 k; omega)]
    have e : (a ++ 32 :: (w ++ joined r)).drop ((a.length : Int).toNat + (([] : List UInt8).length + 1)) = w ++ joined r := by simp
    rw [e, ih]
    simp
theorem split_joined (ws : List (List UInt8)) (a : List UInt8) (ha : (32 : UInt8) ∉ a) (h : ∀ w ∈ ws, (32 : UInt8) ∉ w) : Lib.splitK [32] 0 (Lib.count (a ++ joined ws) [32]) (a ++ joined ws) = a :: ws := by
  have hc : Lib.count (a ++ joined ws) [32] = ws.length := by
    rw [Lib.count_one, List.count_append, List.count_eq_zero.2 ha, joined_count ws h]
    omega
  rw [hc]
  exact splitK_joined ws a ha h
theorem splitB_size (sep : ByteArray) : ∀ (k : Nat) (s : ByteArray), ∀ w ∈ Lib.splitB sep 0 k s, w.size ≤ s.size
  | 0, s, w, h => by
    simp only [Lib.splitB, List.mem_singleton] at h
    rw [h]
    exact Nat.le_refl _
  | k + 1, s, w, h => by
    rw [Lib.splitB] at h
    split at h
    · rw [List.mem_singleton] at h
      rw [h]
      exact Nat.le_refl _
    · rcases List.mem_cons.1 h with h | h
      · rw [h, ByteArray.size_extract]
        omega
      · have := splitB_size sep k _ w h
        rw [ByteArray.size_extract] at this
        omega
theorem digits_range (u : Nat) : ∀ c ∈ Lib.decDigits u, 48 ≤ c.toNat ∧ c.toNat ≤ 57 := by
  induction u using Nat.strongRecOn with
  | _ u ih =>
    intro c hc
    rw [Lib.decDigits] at hc
    split at hc
    · rename_i h
      simp only [List.mem_singleton] at hc
      subst hc
      rw [UInt8.toNat_ofNat']
      omega
    · rename_i h
      rcases List.mem_append.1 hc with hc | hc
      · exact ih (u / 10) (by omega) c hc
      · simp only [List.mem_singleton] at hc
        subst hc
        rw [UInt8.toNat_ofNat']
        omega
theorem itoa_chars (n : Int) : ∀ c ∈ Lib.itoa n, c = 45 ∨ (48 ≤ c.toNat ∧ c.toNat ≤ 57) := by
  intro c hc
  unfold Lib.itoa at hc
  split at hc
  · rcases List.mem_cons.1 hc with h | h
    · exact .inl h
    · exact .inr (digits_range _ c h)
  · exact .inr (digits_range _ c hc)
theorem parseM_snoc (M : Nat) (c : UInt8) : ∀ (l : List UInt8) (acc u : Nat), Lib.parseUintM M acc l = .ok u → 48 ≤ c.toNat ∧ c.toNat ≤ 57 → u * 10 + (c.toNat - 48) ≤ M → M < 18446744073709551616 → Lib.parseUintM M acc (l ++ [c]) = .ok (u * 10 + (c.toNat - 48))
  | [], acc, u, h, hc, hb, hM => by
    simp only [Lib.parseUintM] at h
    cases h
    simp only [List.nil_append, Lib.parseUintM]
    rw [if_pos hc, if_neg (by omega), if_neg (by omega)]
  | x :: l, acc, u, h, hc, hb, hM => by
    simp only [Lib.parseUintM] at h
    simp only [List.cons_append, Lib.parseUintM]
    split at h
    · rename_i hx
      rw [if_pos hx]
      split at h
      · cases h
      · rename_i h1
        rw [if_neg h1]
        split at h
        · cases h
        · rename_i h2
          rw [if_neg h2]
          exact parseM_snoc M c l _ u h hc hb hM
    · cases h
theorem parseM_digits (M : Nat) (hM : M < 18446744073709551616) (u : Nat) (hu : u ≤ M) : Lib.parseUintM M 0 (Lib.decDigits u) = .ok u := by
  induction u using Nat.strongRecOn with
  | _ u ih =>
    by_cases h : u < 10
    · have e : (UInt8.ofNat (48 + u)).toNat = 48 + u := by rw [UInt8.toNat_ofNat']; omega
      rw [Lib.decDigits_one h]
      have := parseM_snoc M (UInt8.ofNat (48 + u)) [] 0 0 rfl (by rw [e]; omega) (by rw [e]; omega) hM
      rw [e] at this
      simpa using this
    · have e : (UInt8.ofNat (48 + u % 10)).toNat = 48 + u % 10 := by rw [UInt8.toNat_ofNat']; omega
      rw [Lib.decDigits, dif_neg h]
      have := parseM_snoc M (UInt8.ofNat (48 + u % 10)) _ 0 (u / 10) (ih (u / 10) (by omega) (by omega)) (by rw [e]; omega) (by rw [e]; omega) hM
      rw [this, e]
      congr 1
      omega
theorem decDigits_ne (u : Nat) : Lib.decDigits u ≠ [] := by
  intro h
  have := congrArg List.length h
  rw [Lib.decDigits_length] at this
  have := Lib.nDigits_pos u
  simp at *
  omega
theorem parseI_itoa (n : Int) (h0 : -2147483648 ≤ n) (h1 : n ≤ 2147483647) : Lib.parseIntB 32 (Lib.itoa n) = .ok n := by
  by_cases h : n < 0
  · obtain ⟨u, rfl⟩ : ∃ u : Nat, n = -(u : Int) := ⟨n.natAbs, by omega⟩
    rw [Lib.itoa_neg u (by omega), Lib.parseIntB_minus, Lib.parseUintB, if_neg (decDigits_ne u), parseM_digits _ (by decide) u (by show u ≤ 4294967295; omega)]
    have : ¬ 2 ^ (32 - 1) < u := by show ¬ 2147483648 < u; omega
    simp only [Lib.signedC, if_neg this]
  · obtain ⟨u, rfl⟩ : ∃ u : Nat, n = (u : Int) := ⟨n.toNat, by omega⟩
    have hp := parseM_digits (2 ^ 32 - 1) (by decide) u (by show u ≤ 4294967295; omega)
    rw [Lib.itoa_nonneg]
    have hr := digits_range u
    have hne := decDigits_ne u
    revert hr hne hp
    generalize Lib.decDigits u = l
    cases l with
    | nil => intro _ _ hne; exact absurd rfl hne
    | cons c r =>
      intro hp hr _
      have hc := hr c List.mem_cons_self
      rw [Lib.parseIntB_plain 32 c r (by omega) (by omega), Lib.parseUintB, if_neg (by simp), hp]
      have : ¬ 2 ^ (32 - 1) ≤ u := by show ¬ 2147483648 ≤ u; omega
      simp only [Lib.signlessC, if_neg this]
theorem itoa_len32 (n : Int) (h0 : -2147483648 ≤ n) (h1 : n ≤ 2147483647) : (Lib.itoa n).length ≤ 11 := by
  have key : ∀ u : Nat, u ≤ 2147483648 → (Lib.decDigits u).length ≤ 10 := by
    intro u hu
    rw [Lib.decDigits_length]
    rcases Nat.lt_or_ge (Lib.nDigits u) 11 with h | h
    · omega
    · exfalso
      have key2 : ∀ (k u : Nat), k + 1 ≤ Lib.nDigits u → 10 ^ k ≤ u ∨ k = 0 := by
        intro k
        induction k with
        | zero => intro u _; exact .inr rfl
        | succ k ih =>
          intro u hk
          left
          by_cases hu : u < 10
          · rw [Lib.nDigits_small hu] at hk; omega
          · rw [Lib.nDigits_big hu] at hk
            rw [Nat.pow_succ]
            rcases ih (u / 10) (by omega) with h | h
            · omega
            · subst h; omega
      rcases key2 10 u (by omega) with h | h
      · have : (10 : Nat) ^ 10 = 10000000000 := by decide
        omega
      · omega
  unfold Lib.itoa
  split
  · have := key n.natAbs (by omega)
    simp only [List.length_cons]
    omega
  · have := key n.toNat (by omega)
    omega
end Go.Proofs.YtbelnkdbghggmaaGreatDoor.X
namespace Go.Proofs.YtbelnkdbghggmaaGreatDoor.X
open Go.RowKit Go.Proofs.YtbelnkdbghggmaaGreatDoorW.PrintWords
set_option linter.unusedVariables false
set_option linter.unusedSimpArgs false
theorem bytes_inj {a b : ByteArray} (h : a.toList = b.toList) : a = b := by
  rw [ByteArray.toList_eq, ByteArray.toList_eq] at h
  cases a; cases b
  congr 1
  exact Array.ext' h
theorem of_data (a : ByteArray) : (⟨a.data.toList.toArray⟩ : ByteArray) = a := by cases a; simp
theorem eq_of_data {a : ByteArray} {l : List UInt8} (h : a.data.toList = l) : a = ⟨l.toArray⟩ := by rw [← h, of_data]
theorem size_data (a : ByteArray) : a.size = a.data.toList.length := rfl
theorem nil_data {a : ByteArray} (h : a.toList = ([] : List UInt8)) : a = ⟨#[]⟩ := bytes_inj (by rw [h, ByteArray.toList_eq])
theorem names_inj (n m : Nat) (hn : n < 26) (hm : m < 26) (h : (nameN n).data.toList = (nameN m).data.toList) : n = m := by
  have key : ∀ n m : Fin 26, (nameN n.1).data.toList = (nameN m.1).data.toList → n = m := by decide +kernel
  exact congrArg Fin.val (key ⟨n, hn⟩ ⟨m, hm⟩ h)
/-- A word of a text that is no end of one. -/
def wch (c : UInt8) : Prop := c ≠ 10 ∧ c ≠ 32 ∧ c ≠ 58
theorem names_chars (n : Nat) (hn : n < 26) : ∀ c ∈ (nameN n).data.toList, wch c ∧ c ≠ 64 := by
  have key : ∀ n : Fin 26, ((nameN n.1).data.toList.all fun c => c != 10 && (c != 32 && (c != 58 && c != 64))) = true := by decide +kernel
  intro c hc
  have h := List.all_eq_true.1 (key ⟨n, hn⟩) c hc
  simp only [Bool.and_eq_true, bne_iff_ne, ne_eq] at h
  exact ⟨⟨h.1, h.2.1, h.2.2.1⟩, h.2.2.2⟩
theorem itoa_wch (n : Int) : ∀ c ∈ Lib.itoa n, wch c ∧ c ≠ 64 ∧ c ≠ 43 ∧ c ≠ 114 := by
  intro c hc
  have h := itoa_chars n c hc
  have e : ∀ d : UInt8, d ≠ 45 → (d.toNat < 48 ∨ 57 < d.toNat) → c ≠ d := fun d h1 h2 k => by
    subst k
    rcases h with h | h
    · exact h1 h
    · omega
  exact ⟨⟨e 10 (by decide) (by decide), e 32 (by decide) (by decide), e 58 (by decide) (by decide)⟩, e 64 (by decide) (by decide), e 43 (by decide) (by decide), e 114 (by decide) (by decide)⟩
theorem bt_get (s : ByteArray) (i : Nat) (h : i < s.data.toList.length) : bt s (i : Int) = ((s.data.toList[i]'h).toNat : Int) := by
  have h2 : i < s.size := h
  simp [bt, h2, List.getD_eq_getElem?_getD, List.getElem?_eq_getElem h]
  rfl
theorem named_chars {s : ByteArray} (h : namedB s = true) : ∀ c ∈ s.data.toList, wch c ∧ c ≠ 43 ∧ c ≠ 64 := by
  unfold namedB namesTo at h
  rw [Bool.and_eq_true, List.all_eq_true] at h
  intro c hc
  obtain ⟨i, hi, rfl⟩ := List.getElem_of_mem hc
  have h2 := h.1 i (List.mem_range.2 hi)
  rw [bt_get s i hi] at h2
  have key : ∀ (z : Fin 256), (z.1 = 10 ∨ z.1 = 32 ∨ z.1 = 58 ∨ z.1 = 43 ∨ z.1 = 64) → badN i (z.1 : Int) = true := by
    intro z hz
    have key2 : ∀ (z : Fin 256), (z.1 = 10 ∨ z.1 = 32 ∨ z.1 = 58 ∨ z.1 = 43 ∨ z.1 = 64) → ((!(decide (48 ≤ (z.1 : Int)) && decide ((z.1 : Int) ≤ 57))) && (!(decide (97 ≤ Go.bits .or .u8 (z.1 : Int) 32) && decide (Go.bits .or .u8 (z.1 : Int) 32 ≤ 122))) && ((z.1 : Int) != 95)) = true := by decide +kernel
    unfold badN
    rw [key2 z hz, Bool.true_or]
  have e : ∀ d : UInt8, (d.toNat = 10 ∨ d.toNat = 32 ∨ d.toNat = 58 ∨ d.toNat = 43 ∨ d.toNat = 64) → s.data.toList[i] ≠ d := fun d hd k => by
    rw [k, key ⟨d.toNat, d.toNat_lt⟩ hd] at h2
    exact absurd h2 (by decide)
  exact ⟨⟨e 10 (by decide), e 32 (by decide), e 58 (by decide)⟩, e 43 (by decide), e 64 (by decide)⟩
theorem named_size {s : ByteArray} (h : namedB s = true) : 0 < s.size ∧ s.size ≤ 16 := by
  unfold namedB at h
  simp only [Bool.and_eq_true, decide_eq_true_eq] at h
  exact h.2
theorem fit_used {op a b c e : Int} (h : fitB op a b c e = true) (k : Nat) (hk : k < 4) : uses op k = true ∨ num a b c e k = 0 := by
  unfold fitB at h
  rw [Bool.and_eq_true, decide_eq_true_eq] at h
  have h1 := h.2
  unfold fitP at h1
  rw [List.all_eq_true] at h1
  have h2 := h1 k (List.mem_range.2 hk)
  unfold bad at h2
  cases hu : uses op k with
  | true => exact .inl rfl
  | false =>
    rw [hu] at h2
    right
    simp at h2
    exact h2.1
/-- A text's words behind the name. -/
def wordOf (a b c e : Int) (k : Nat) : List UInt8 := if letter k = 105 then Lib.itoa (num a b c e k) else 114 :: Lib.itoa (num a b c e k)
def wordsOf (op a b c e : Int) (pre : List Nat) : List (List UInt8) := (pre.filter (fun k => uses op k)).map (wordOf a b c e)
theorem textP_fold (op a b c e : Int) : ∀ (pre : List Nat) (s : ByteArray), (pre.foldl (tstep op a b c e) s).data.toList = s.data.toList ++ joined (wordsOf op a b c e pre)
  | [], s => by simp [wordsOf, joined]
  | x :: pre, s => by
    rw [List.foldl_cons, textP_fold op a b c e pre]
    have hw : wordsOf op a b c e (x :: pre) = (if uses op x = true then [wordOf a b c e x] else []) ++ wordsOf op a b c e pre := by
      unfold wordsOf
      by_cases h : uses op x = true
      · rw [if_pos h, List.filter_cons_of_pos h]; rfl
      · rw [if_neg h, List.filter_cons_of_neg h]; rfl
    rw [hw, joined_append, ← List.append_assoc]
    congr 1
    unfold tstep
    by_cases h : uses op x = true
    · rw [if_pos h, if_pos h]
      by_cases hl : letter x = 105
      · rw [if_pos hl, app_data]
        simp [joined, wordOf, hl, itoaB, app_data]
      · rw [if_neg hl, app_data]
        simp [joined, wordOf, hl, itoaB, app_data]
    · rw [if_neg h, if_neg h]
      simp [joined]
theorem textP_words (op a b c e : Int) (pre : List Nat) : (textP op a b c e pre).data.toList = (nameN op.toNat).data.toList ++ joined (wordsOf op a b c e pre) := textP_fold op a b c e pre _
/-- The last word: a number, or a mark with what is added. -/
def wordI (x : S40) : List UInt8 := if x.f2.toList = ([] : List UInt8) then Lib.itoa x.f1.f4 else if x.f1.f4 = 0 then 64 :: x.f2.data.toList else 64 :: (x.f2.data.toList ++ 43 :: Lib.itoa x.f1.f4)
def preW (x : S40) : List (List UInt8) := wordsOf x.f1.f0 x.f1.f1 x.f1.f2 x.f1.f3 0 (List.range 3)
def lineWords (x : S40) : List (List UInt8) := preW x ++ (if uses x.f1.f0 3 = true then [wordI x] else [])
/-- A line's text. -/
def lineT (x : S40) : List UInt8 := if x.f0.toList = ([] : List UInt8) then (nameN x.f1.f0.toNat).data.toList ++ joined (lineWords x) else x.f0.data.toList ++ [58]
def goes5 (op : Int) : Prop := op = 1 ∨ op = 18 ∨ op = 19 ∨ op = 20 ∨ op = 21
theorem uses_goes {op : Int} (h : goes5 op) : uses op 3 = true := by
  rcases h with rfl | rfl | rfl | rfl | rfl <;> decide +kernel
theorem words_split (x : S40) (e : Int) : wordsOf x.f1.f0 x.f1.f1 x.f1.f2 x.f1.f3 e (List.range 4) = preW x ++ (if uses x.f1.f0 3 = true then [Lib.itoa e] else []) := by
  unfold preW wordsOf
  rw [show List.range 4 = List.range 3 ++ [3] from rfl, List.filter_append, List.map_append]
  have h3 : ∀ k ∈ (List.range 3).filter (fun k => uses x.f1.f0 k), wordOf x.f1.f1 x.f1.f2 x.f1.f3 e k = wordOf x.f1.f1 x.f1.f2 x.f1.f3 0 k := by
    intro k hk
    have hk2 : k < 3 := List.mem_range.1 (List.mem_filter.1 hk).1
    have : k = 0 ∨ k = 1 ∨ k = 2 := by omega
    rcases this with rfl | rfl | rfl <;> rfl
  rw [List.map_congr_left h3]
  by_cases h : uses x.f1.f0 3 = true
  · rw [if_pos h, List.filter_cons_of_pos h]; rfl
  · rw [if_neg h, List.filter_cons_of_neg h]; rfl
/-- What a good line is. -/
theorem good_cases {x : S40} (h : goodB x = true) : (x.f0.toList = [] ∧ fitB x.f1.f0 x.f1.f1 x.f1.f2 x.f1.f3 x.f1.f4 = true ∧ (x.f2.toList = [] ∨ (x.f2.toList ≠ [] ∧ namedB x.f2 = true ∧ goes5 x.f1.f0 ∧ (x.f1.f0 ≠ 1 → x.f1.f4 = 0)))) ∨ (x.f0.toList ≠ [] ∧ namedB x.f0 = true ∧ (x.f1.f0 = 0 ∧ x.f1.f1 = 0 ∧ x.f1.f2 = 0 ∧ x.f1.f3 = 0 ∧ x.f1.f4 = 0) ∧ x.f2.toList = []) := by
  unfold goodB at h
  split at h
  · rename_i h0
    rw [Bool.and_eq_true] at h
    refine .inl ⟨h0, h.1, ?_⟩
    by_cases h2 : x.f2.toList = []
    · exact .inl h2
    · have h3 := h.2
      rw [decide_eq_false h2, Bool.false_or, Bool.and_eq_true] at h3
      refine .inr ⟨h2, h3.1, ?_⟩
      have h4 := h3.2
      unfold jumpsB at h4
      simp only [Bool.or_eq_true, Bool.and_eq_true, decide_eq_true_eq] at h4
      unfold goes5
      rcases h4 with h4 | h4
      · exact ⟨.inl h4, fun k => absurd h4 k⟩
      · refine ⟨?_, fun _ => h4.2⟩
        omega
  · rename_i h0
    simp only [Bool.and_eq_true, beq_iff_eq] at h
    exact .inr ⟨h0, h.1, h.2.1, h.2.2⟩
theorem text_data (x : S40) : (textP x.f1.f0 x.f1.f1 x.f1.f2 x.f1.f3 x.f1.f4 (List.range 4)).data.toList = (nameN x.f1.f0.toNat).data.toList ++ joined (preW x ++ (if uses x.f1.f0 3 = true then [Lib.itoa x.f1.f4] else [])) := by
  rw [textP_words, words_split]
theorem trim_app (a s : List UInt8) : Lib.trimSuffix (a ++ s) s = a := by
  unfold Lib.trimSuffix Lib.hasSuffix
  rw [if_pos (by rw [List.isSuffixOf_iff_suffix]; exact List.suffix_append a s)]
  simp
/-- What stands ahead of the last number. -/
def ahead (x : S40) : ByteArray := ⟨((nameN x.f1.f0.toNat).data.toList ++ joined (preW x) ++ [32]).toArray⟩
theorem text_goes {x : S40} (h : goes5 x.f1.f0) : textP x.f1.f0 x.f1.f1 x.f1.f2 x.f1.f3 x.f1.f4 (List.range 4) = ahead x ++ itoaB x.f1.f4 := by
  apply ba_ext
  rw [text_data, if_pos (uses_goes h), joined_append, app_data]
  simp [ahead, itoaB, joined]
theorem line_goes {x : S40} (h0 : x.f0.toList = []) (h : goes5 x.f1.f0) (ht : x.f2.toList ≠ []) : lineT x = (ahead x).data.toList ++ (64 :: (x.f2.data.toList ++ (if x.f1.f4 = 0 then [] else 43 :: Lib.itoa x.f1.f4))) := by
  unfold lineT lineWords wordI
  rw [if_pos h0, if_pos (uses_goes h), if_neg ht, joined_append]
  by_cases he : x.f1.f4 = 0
  · rw [if_pos he, if_pos he]; simp [ahead, joined]
  · rw [if_neg he, if_neg he]; simp [ahead, joined]
theorem textX_size {x : S40} (hw : wfX x) (hf : fitB x.f1.f0 x.f1.f1 x.f1.f2 x.f1.f3 x.f1.f4 = true) : (textP x.f1.f0 x.f1.f1 x.f1.f2 x.f1.f3 x.f1.f4 (List.range 4)).size ≤ 100 := by
  have := txt_size x.f1.f0 x.f1.f1 x.f1.f2 x.f1.f3 x.f1.f4 hw.1
  unfold txtV at this
  rwa [if_pos hf] at this
theorem ahead_size {x : S40} (hw : wfX x) (hf : fitB x.f1.f0 x.f1.f1 x.f1.f2 x.f1.f3 x.f1.f4 = true) (h : goes5 x.f1.f0) : (ahead x).size ≤ 100 := by
  have := textX_size hw hf
  rw [text_goes h, bsize_append] at this
  omega
theorem line_fit {x : S40} (h0 : x.f0.toList = []) (ht : x.f2.toList = []) : lineT x = (textP x.f1.f0 x.f1.f1 x.f1.f2 x.f1.f3 x.f1.f4 (List.range 4)).data.toList := by
  unfold lineT lineWords wordI
  rw [if_pos h0, text_data, if_pos ht]
/-- The program's text of a good line. -/
theorem txt_good {x : S40} (hw : wfX x) (h : goodB x = true) : txtF x = some ⟨(lineT x).toArray⟩ := by
  unfold txtF asm_text.f inst_TextE.f
  rcases good_cases h with ⟨h0, hf, ht⟩ | ⟨h0, hn, _, h2⟩
  · rw [if_pos h0, txt_val _ _ _ _ _ hw.1]
    simp only [Option.bind_some]
    rw [show txtV x.f1.f0 x.f1.f1 x.f1.f2 x.f1.f3 x.f1.f4 = textP x.f1.f0 x.f1.f1 x.f1.f2 x.f1.f3 x.f1.f4 (List.range 4) from if_pos hf]
    rcases ht with ht | ⟨ht, hn, hg, hj⟩
    · rw [if_pos ht]
      exact congrArg some (eq_of_data (line_fit h0 ht).symm)
    · have hs := textX_size hw hf
      have ha := ahead_size hw hf hg
      have hN := (named_size hn).2
      have hI := itoaB_size x.f1.f4 (by have := hw.1; omega) (by have := hw.1; omega)
      have h64 : wrap64 x.f1.f4 = x.f1.f4 := by unfold wrap64; have := hw.1; omega
      rw [if_neg ht, h64]
      unfold strconv_Itoa.f
      rw [if_pos (by have := hw.1; omega)]
      simp only [Option.bind_some]
      unfold strings_TrimSuffix.f
      rw [if_pos (by omega)]
      simp only [Option.bind_some]
      have htr : (⟨(Lib.trimSuffix (textP x.f1.f0 x.f1.f1 x.f1.f2 x.f1.f3 x.f1.f4 (List.range 4)).data.toList (itoaB x.f1.f4).data.toList).toArray⟩ : ByteArray) = ahead x := by
        rw [text_goes hg, app_data, trim_app]
        try simp [app_data]
      have z64 : (⟨#[64]⟩ : ByteArray).size = 1 := rfl
      have z43 : (⟨#[43]⟩ : ByteArray).size = 1 := rfl
      rw [htr, if_pos (by omega), if_pos (by rw [bsize_append, z64]; omega), line_goes h0 hg ht]
      by_cases he : x.f1.f4 = 0
      · rw [if_pos he, if_pos he]
        refine congrArg some (ba_ext ?_)
        simp [app_data]
      · rw [if_neg he, if_neg he, if_pos (by omega), if_pos (by rw [bsize_append, bsize_append, bsize_append, z64, z43]; omega)]
        refine congrArg some (ba_ext ?_)
        simp [app_data, itoaB]
  · have hN := (named_size hn).2
    rw [if_neg h0, if_pos (by omega)]
    unfold lineT
    rw [if_neg h0]
    refine congrArg some (ba_ext ?_)
    simp [app_data]
theorem joined_mem {c : UInt8} : ∀ {ws : List (List UInt8)}, c ∈ joined ws → c = 32 ∨ ∃ w ∈ ws, c ∈ w
  | [], h => by simp [joined] at h
  | w :: r, h => by
    simp only [joined, List.mem_cons, List.mem_append] at h
    rcases h with h | h | h
    · exact .inl h
    · exact .inr ⟨w, List.mem_cons_self, h⟩
    · rcases joined_mem h with h | ⟨v, hv, h⟩
      · exact .inl h
      · exact .inr ⟨v, List.mem_cons_of_mem _ hv, h⟩
theorem words_chars {x : S40} (h0 : x.f0.toList = []) (h : goodB x = true) : ∀ w ∈ lineWords x, ∀ c ∈ w, wch c := by
  rcases good_cases h with ⟨_, hf, ht⟩ | ⟨h1, _⟩
  · intro w hw c hc
    unfold lineWords at hw
    have cons : ∀ (d : UInt8) (l : List UInt8), wch d → (∀ c ∈ l, wch c) → ∀ c ∈ d :: l, wch c := fun d l hd hl c hc => by
      rcases List.mem_cons.1 hc with h | h
      · rw [h]; exact hd
      · exact hl c h
    have w114 : wch 114 := by unfold wch; decide
    have w64 : wch 64 := by unfold wch; decide
    have w43 : wch 43 := by unfold wch; decide
    rcases List.mem_append.1 hw with hw | hw
    · unfold preW wordsOf at hw
      obtain ⟨k, _, rfl⟩ := List.mem_map.1 hw
      unfold wordOf at hc
      split at hc
      · exact (itoa_wch _ c hc).1
      · exact cons 114 _ w114 (fun c hc => (itoa_wch _ c hc).1) c hc
    · split at hw
      · rw [List.mem_singleton] at hw
        subst hw
        unfold wordI at hc
        split at hc
        · exact (itoa_wch _ c hc).1
        · rename_i h2
          rcases ht with ht | ⟨_, hn, _⟩
          · exact absurd ht h2
          · split at hc
            · exact cons 64 _ w64 (fun c hc => (named_chars hn c hc).1) c hc
            · refine cons 64 _ w64 (fun c hc => ?_) c hc
              rcases List.mem_append.1 hc with hc | hc
              · exact (named_chars hn c hc).1
              · exact cons 43 _ w43 (fun c hc => (itoa_wch _ c hc).1) c hc
      · simp at hw
  · exact absurd h0 h1
theorem line_chars {x : S40} (h : goodB x = true) : (10 : UInt8) ∉ lineT x ∧ (x.f0.toList = [] → (58 : UInt8) ∉ lineT x) ∧ lineT x ≠ [] ∧ (x.f0.toList = [] → (nameN x.f1.f0.toNat).data.toList ≠ []) := by
  have hcs := good_cases h
  have op26 : x.f0.toList = [] → 0 ≤ x.f1.f0 ∧ x.f1.f0 < 26 := fun h0 => by
    rcases hcs with ⟨_, hf, _⟩ | ⟨h1, _⟩
    · have := fitB_regs hf; omega
    · exact absurd h0 h1
  have key : ∀ n : Fin 26, (nameN n.1).data.toList ≠ [] := by decide +kernel
  have hne : x.f0.toList = [] → (nameN x.f1.f0.toNat).data.toList ≠ [] := fun h0 => by
    have := op26 h0
    exact key ⟨x.f1.f0.toNat, by omega⟩
  have all : x.f0.toList = [] → ∀ c ∈ lineT x, c ≠ 10 ∧ c ≠ 58 := fun h0 c hc => by
    have := op26 h0
    unfold lineT at hc
    rw [if_pos h0] at hc
    rcases List.mem_append.1 hc with hc | hc
    · have := (names_chars _ (by omega) c hc).1
      exact ⟨this.1, this.2.2⟩
    · rcases joined_mem hc with hc | ⟨w, hw, hc⟩
      · subst hc; decide
      · have := words_chars h0 h w hw c hc
        exact ⟨this.1, this.2.2⟩
  refine ⟨?_, fun h0 k => (all h0 58 k).2 rfl, ?_, hne⟩
  · intro hc
    by_cases h0 : x.f0.toList = []
    · exact (all h0 10 hc).1 rfl
    · rcases hcs with ⟨h1, _⟩ | ⟨_, hn, _⟩
      · exact h0 h1
      · unfold lineT at hc
        rw [if_neg h0] at hc
        rcases List.mem_append.1 hc with hc | hc
        · exact (named_chars hn 10 hc).1.1 rfl
        · simp at hc
  · intro k
    by_cases h0 : x.f0.toList = []
    · unfold lineT at k
      rw [if_pos h0] at k
      exact hne h0 (List.append_eq_nil_iff.1 k).1
    · unfold lineT at k
      rw [if_neg h0] at k
      simp at k
theorem line_size {x : S40} (hw : wfX x) (h : goodB x = true) : (lineT x).length ≤ 150 := by
  rcases good_cases h with ⟨h0, hf, ht⟩ | ⟨h0, hn, _⟩
  · have hs := textX_size hw hf
    rcases ht with ht | ⟨ht, hn, hg, _⟩
    · rw [line_fit h0 ht]; exact Nat.le_trans hs (by decide)
    · have ha := ahead_size hw hf hg
      have hN := (named_size hn).2
      have hI := itoa_len32 x.f1.f4 hw.1.1 hw.1.2
      rw [line_goes h0 hg ht]
      rw [size_data] at ha hN
      split <;> simp only [List.length_append, List.length_cons, List.length_nil] <;> omega
  · have hN := (named_size hn).2
    unfold lineT
    rw [if_neg h0, List.length_append]
    rw [size_data] at hN
    simp only [List.length_cons, List.length_nil]
    omega
end Go.Proofs.YtbelnkdbghggmaaGreatDoor.X
namespace Go.Proofs.YtbelnkdbghggmaaGreatDoor.X
open Go.RowKit Go.Proofs.YtbelnkdbghggmaaGreatDoorW.PrintWords
set_option linter.unusedVariables false
set_option linter.unusedSimpArgs false
theorem ext_data (s : ByteArray) (a b : Nat) : (s.extract a b).data.toList = (s.data.toList.drop a).take (b - a) := by
  rw [ByteArray.data_extract, Array.toList_extract]
/-- A text's words, the first so far. -/
def spl : List UInt8 → List UInt8 → List (List UInt8)
  | cur, [] => [cur]
  | cur, c :: r => if c = 32 then cur :: spl [] r else spl (cur ++ [c]) r
def toB (l : List UInt8) : ByteArray := ⟨l.toArray⟩
theorem toB_data (l : List UInt8) : (toB l).data.toList = l := rfl
theorem spl_word (ws : List (List UInt8)) : ∀ (a cur : List UInt8), (32 : UInt8) ∉ a → spl cur (a ++ joined ws) = spl (cur ++ a) (joined ws)
  | [], cur, _ => by simp
  | c :: a, cur, h => by
    rw [List.cons_append, spl, if_neg (fun e => h (by rw [e]; exact List.mem_cons_self)), spl_word ws a _ (fun k => h (List.mem_cons_of_mem _ k))]
    simp
theorem spl_joined : ∀ (ws : List (List UInt8)) (a : List UInt8), (32 : UInt8) ∉ a → (∀ w ∈ ws, (32 : UInt8) ∉ w) → spl [] (a ++ joined ws) = a :: ws
  | [], a, ha, _ => by rw [spl_word [] a [] ha]; simp [joined, spl]
  | w :: r, a, ha, h => by
    rw [spl_word _ a [] ha]
    simp only [joined, List.nil_append, spl, if_true]
    rw [spl_joined r w (h w List.mem_cons_self) fun v hv => h v (List.mem_cons_of_mem _ hv)]
theorem spl_len : ∀ (l cur : List UInt8), 1 ≤ (spl cur l).length ∧ (spl cur l).length ≤ l.length + 1 ∧ ∀ w ∈ spl cur l, w.length ≤ cur.length + l.length
  | [], cur => by simp [spl]
  | c :: r, cur => by
    rw [spl]
    split
    · have ih := spl_len r []
      refine ⟨by simp, by simp only [List.length_cons]; omega, fun w hw => ?_⟩
      rcases List.mem_cons.1 hw with h | h
      · rw [h]; omega
      · have := ih.2.2 w h
        simp only [List.length_nil, List.length_cons] at *
        omega
    · have ih := spl_len r (cur ++ [c])
      simp only [List.length_append, List.length_cons, List.length_nil] at *
      refine ⟨ih.1, by omega, fun w hw => ?_⟩
      have := ih.2.2 w hw
      omega
theorem drop_cons {α : Type} {l : List α} {i : Nat} {c : α} {r : List α} (h : l.drop i = c :: r) : ∃ hi : i < l.length, l[i] = c ∧ l.drop (i + 1) = r := by
  have hi : i < l.length := by
    rcases Nat.lt_or_ge i l.length with h1 | h1
    · exact h1
    · rw [List.drop_eq_nil_of_le h1] at h; cases h
  rw [List.drop_eq_getElem_cons hi] at h
  exact ⟨hi, (List.cons.inj h).1, (List.cons.inj h).2⟩
theorem w64 (n : Int) (h0 : -9223372036854775808 ≤ n) (h1 : n ≤ 9223372036854775807) : wrap64 n = n := by unfold wrap64; omega
theorem rWords_l (s : ByteArray) (hs : s.size ≤ 1000) : ∀ (r : List UInt8) (k i fr : Nat) (acc : List ByteArray), fr ≤ i → i ≤ s.size → s.data.toList.drop i = r → r.length + 2 ≤ k → acc.length ≤ i →
    curtilageref10_words.l0 k s acc (fr : Int) (i : Int) = some (acc ++ (spl ((s.data.toList.drop fr).take (i - fr)) r).map toB)
  | [], k, i, fr, acc, hf, hi, hd, hk, ha => by
    obtain ⟨k, rfl⟩ : ∃ m, k = m + 2 := ⟨k - 2, by omega⟩
    have hie : i = s.size := by
      have := congrArg List.length hd
      rw [List.length_drop, ← size_data] at this
      simp at this
      omega
    simp only [curtilageref10_words.l0]
    rw [if_pos (by omega), if_pos (by omega), if_pos (by omega), if_pos (by omega), if_pos (by omega), w64 _ (by omega) (by omega), if_neg (by omega)]
    refine congrArg some ?_
    rw [spl]
    simp only [List.map_cons, List.map_nil]
    refine congrArg (fun x => acc ++ [x]) ?_
    apply ba_ext
    rw [ext_data, toB_data]
    simp
  | c :: r, k, i, fr, acc, hf, hi, hd, hk, ha => by
    obtain ⟨k, rfl⟩ : ∃ m, k = m + 1 := ⟨k - 1, by omega⟩
    obtain ⟨hlt, hc, hdr⟩ := drop_cons hd
    have hlt2 : i < s.size := hlt
    simp only [curtilageref10_words.l0]
    rw [if_pos (by omega), if_neg (by omega), if_pos (by omega), if_pos (by omega), bt_get s i hlt, hc, w64 _ (by omega) (by omega), show ((i : Int) + 1) = ((i + 1 : Nat) : Int) from by omega]
    rw [spl]
    simp only [List.length_cons] at hk
    by_cases h32 : c = 32
    · rw [if_pos (by rw [h32]; rfl), if_pos h32, if_pos (by omega), if_pos (by omega), if_pos (by omega)]
      rw [rWords_l s hs r k (i + 1) (i + 1) _ (Nat.le_refl _) (by omega) hdr (by omega) (by simp; omega)]
      refine congrArg some ?_
      rw [Nat.sub_self, List.take_zero, List.map_cons, List.append_assoc]
      congr 1
      simp only [List.singleton_append, List.cons.injEq, and_true]
      apply ba_ext
      rw [ext_data, toB_data]
      simp
    · have hne : ¬ ((c.toNat : Int) = 32) := fun e => h32 (UInt8.toNat_inj.1 (by show c.toNat = 32; omega))
      rw [if_neg hne, if_neg h32]
      rw [rWords_l s hs r k (i + 1) fr acc (by omega) (by omega) hdr (by omega) (by omega)]
      have e : ((s.data.toList.drop fr).take (i + 1 - fr)) = (s.data.toList.drop fr).take (i - fr) ++ [c] := by
        rw [show i + 1 - fr = (i - fr) + 1 from by omega, List.take_add_one, List.getElem?_drop, show fr + (i - fr) = i from by omega, List.getElem?_eq_getElem hlt, hc]
        rfl
      rw [e]
theorem rWords (K : Nat) (s : ByteArray) (hs : s.size ≤ 1000) (hK : s.size + 2 ≤ K) : curtilageref10_words.f K s = some ((spl [] s.data.toList).map toB) := by
  unfold curtilageref10_words.f
  have := rWords_l s hs s.data.toList K 0 0 [] (Nat.le_refl _) (by omega) (by simp) (by rw [← size_data]; omega) (by simp)
  simpa using this
theorem badN_eq (i : Nat) (c : Int) (h0 : 0 ≤ c) (h1 : c ≤ 255) : badN i c = (((!(decide (48 ≤ c) && decide (c ≤ 57))) && (!((decide (97 ≤ c) && decide (c ≤ 122)) || (decide (65 ≤ c) && decide (c ≤ 90)))) && (c != 95)) || (decide (i = 0) && (decide (48 ≤ c) && decide (c ≤ 57)))) := by
  have key : ∀ z : Fin 256, (decide (97 ≤ Go.bits .or .u8 (z.1 : Int) 32) && decide (Go.bits .or .u8 (z.1 : Int) 32 ≤ 122)) = ((decide (97 ≤ (z.1 : Int)) && decide ((z.1 : Int) ≤ 122)) || (decide (65 ≤ (z.1 : Int)) && decide ((z.1 : Int) ≤ 90))) := by decide +kernel
  have hk := key ⟨c.toNat, by omega⟩
  have e : ((c.toNat : Nat) : Int) = c := by omega
  simp only [e] at hk
  unfold badN
  rw [hk]
  congr 2
  by_cases hi : i = 0
  · subst hi; rfl
  · have : ((i : Int) == 0) = false := by simp [hi]
    rw [this, decide_eq_false hi]
theorem rWord_step (k : Nat) (s : ByteArray) (i : Nat) (c : Int) (h0 : 0 ≤ c) (h1 : c ≤ 255) (hi : i < s.size) (hb : bt s (i : Int) = c) :
    curtilageref10_word.l0 (k + 1) s (i : Int) = if badN i c = true then some false else curtilageref10_word.l0 k s (wrap64 ((i : Int) + 1)) := by
  simp only [curtilageref10_word.l0]
  rw [if_pos (by omega), if_pos (by omega), hb, badN_eq i c h0 h1]
  generalize curtilageref10_word.l0 k s (wrap64 ((i : Int) + 1)) = L
  repeat' split
  all_goals first
    | rfl
    | (exfalso; rename_i h; simp at h; omega)
    | (exfalso; rename_i h; simp at h; simp_all; omega)
theorem rWord (s : ByteArray) (hs : s.size ≤ 9223372036854775807) : ∀ (d k i : Nat), i + d = s.size → d + 2 ≤ k → namesTo s i = true → curtilageref10_word.l0 k s (i : Int) = some (namedB s)
  | 0, k, i, hi, hk, hn => by
    obtain ⟨k, rfl⟩ : ∃ m, k = m + 1 := ⟨k - 1, by omega⟩
    have e : i = s.size := by omega
    subst e
    simp only [curtilageref10_word.l0]
    rw [if_neg (by omega)]
    unfold namedB
    rw [hn, Bool.true_and]
    by_cases h : 0 < s.size
    · rw [if_pos (by omega), decide_eq_true h, Bool.true_and]
      refine congrArg some ?_
      by_cases h2 : s.size ≤ 16
      · rw [decide_eq_true h2, decide_eq_true (by omega)]
      · rw [decide_eq_false h2, decide_eq_false (by omega)]
    · rw [if_neg (by omega), decide_eq_false h, Bool.false_and]
  | d + 1, k, i, hi, hk, hn => by
    obtain ⟨k, rfl⟩ : ∃ m, k = m + 1 := ⟨k - 1, by omega⟩
    have hlt : i < s.data.toList.length := by rw [← size_data]; omega
    have hb := bt_get s i hlt
    have hu := (s.data.toList[i]'hlt).toNat_lt
    rw [rWord_step k s i _ (by omega) (by omega) (by omega) hb]
    by_cases hbad : badN i ((s.data.toList[i]'hlt).toNat : Int) = true
    · rw [if_pos hbad]
      unfold namedB
      rw [namesTo_bad (k := i) (by omega) (by rw [hb]; exact hbad)]
      rfl
    · rw [if_neg hbad, w64 _ (by omega) (by omega)]
      have ih := rWord s hs d k (i + 1) (by omega) (by omega) (by rw [namesTo_succ, hn, hb]; rw [Bool.not_eq_true] at hbad; rw [hbad]; rfl)
      exact ih
theorem rWord_val (K : Nat) (s : ByteArray) (hs : s.size ≤ 9223372036854775807) (hK : s.size + 2 ≤ K) : curtilageref10_word.f K s = some (namedB s) := by
  unfold curtilageref10_word.f
  exact rWord s hs s.size K 0 (by omega) (by omega) rfl
theorem rGoes (op : Int) : curtilageref10_goes.f op = some (jumpsB op) := by
  unfold curtilageref10_goes.f jumpsB
  by_cases h1 : op = 18 <;> by_cases h2 : op = 19 <;> by_cases h3 : op = 20 <;> by_cases h4 : op = 21 <;> simp [h1, h2, h3, h4]
theorem rGood (K : Nat) (x : S40) (h0 : x.f0.size ≤ 9223372036854775807) (h2 : x.f2.size ≤ 9223372036854775807) (hK : x.f0.size + x.f2.size + 100 ≤ K) : curtilageref10_good.f K x.f0 x.f1.f0 x.f1.f1 x.f1.f2 x.f1.f3 x.f1.f4 x.f2 = some (goodB x) := by
  unfold curtilageref10_good.f goodB
  rw [rFit K (by omega), rWord_val K x.f2 h2 (by omega), rWord_val K x.f0 h0 (by omega), rGoes]
  simp only [Option.bind_some]
  by_cases hm : x.f0.toList = ([] : List UInt8)
  · rw [if_pos hm, if_pos hm]
    cases fitB x.f1.f0 x.f1.f1 x.f1.f2 x.f1.f3 x.f1.f4 with
    | false => rw [if_neg (by decide)]; rfl
    | true =>
      rw [if_pos rfl, Bool.true_and]
      by_cases ht : x.f2.toList = ([] : List UInt8)
      · rw [if_pos ht, decide_eq_true ht]; rfl
      · rw [if_neg ht, decide_eq_false ht, Bool.false_or]
        cases namedB x.f2 with
        | false => rw [if_neg (by decide)]; rfl
        | true =>
          rw [if_pos rfl, Bool.true_and]
          cases hj : jumpsB x.f1.f0 with
          | false =>
            rw [if_neg (by decide)]
            rw [Bool.false_and, Bool.or_false]
            refine congrArg some ?_
            by_cases h1 : x.f1.f0 = 1 <;> simp [h1]
          | true =>
            rw [if_pos rfl, Bool.true_and]
            have : ¬ x.f1.f0 = 1 := by
              unfold jumpsB at hj
              simp only [Bool.or_eq_true, decide_eq_true_eq] at hj
              omega
            by_cases hz : x.f1.f4 = 0 <;> simp [hz, this]
  · rw [if_neg hm, if_neg hm]
    cases namedB x.f0 with
    | false => rw [if_neg (by decide)]; rfl
    | true =>
      rw [if_pos rfl, Bool.true_and]
      by_cases ht : x.f2.toList = ([] : List UInt8)
      · rw [if_pos ht, ht]; simp
      · rw [if_neg ht]
        have : (x.f2.toList == ([] : List UInt8)) = false := by simp [ht]
        rw [this, Bool.and_false]
end Go.Proofs.YtbelnkdbghggmaaGreatDoor.X
