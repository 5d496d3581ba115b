/- Walks of Go functions: each proves that the call answers what the Lean function of its name computes, wherever that is told; written by a program of this work out of the translation. -/
import Derived.Test.YtbelnkdbghggmaaGreatDoorXx0
import Derived.Test.YtbelnkdbghggmaaGreatDoorMr4
import Derived.Test.YtbelnkdbghggmaaGreatDoorLa
import Derived.Test.YtbelnkdbghggmaaGreatDoorMr3
import Derived.Test.YtbelnkdbghggmaaGreatDoorMr2
namespace Go.Proofs.YtbelnkdbghggmaaGreatDoor.X
open Go.RowKit Go.Proofs.YtbelnkdbghggmaaGreatDoorW.PrintWords Go.Proofs.YtbelnkdbghggmaaGreatDoorW.PrintLast

set_option linter.unusedVariables false
set_option linter.unusedSimpArgs false

/-! ### asm_text: function 19 -/
def asm_text.f (a0_0 : ByteArray) (a0_1 : Int) (a0_2 : Int) (a0_3 : Int) (a0_4 : Int) (a0_5 : Int) (a0_6 : ByteArray) : Option (ByteArray) := if a0_0.toList = ([] : List UInt8) then ((inst_TextE.f a0_1 a0_2 a0_3 a0_4 a0_5).bind fun t102 => (if a0_6.toList = ([] : List UInt8) then (some t102) else ((strconv_Itoa.f (wrap64 (a0_5))).bind fun t103 => ((strings_TrimSuffix.f t102 t103).bind fun t104 => (if t104.size + 1 ≤ 9223372036854775807 then (if (t104 ++ (⟨#[64]⟩ : ByteArray)).size + a0_6.size ≤ 9223372036854775807 then (if a0_5 = 0 then (some ((t104 ++ (⟨#[64]⟩ : ByteArray)) ++ a0_6)) else (if 1 + t103.size ≤ 9223372036854775807 then (if ((t104 ++ (⟨#[64]⟩ : ByteArray)) ++ a0_6).size + ((⟨#[43]⟩ : ByteArray) ++ t103).size ≤ 9223372036854775807 then (some (((t104 ++ (⟨#[64]⟩ : ByteArray)) ++ a0_6) ++ ((⟨#[43]⟩ : ByteArray) ++ t103))) else (none)) else (none))) else (none)) else (none)))))) else (if a0_0.size + 1 ≤ 9223372036854775807 then (some (a0_0 ++ (⟨#[58]⟩ : ByteArray))) else (none))
def asm_text.T7 : Bool × List (List Nat × List Nat) := (true, [([], []), ([], []), ([0, 1], [0, 1]), ([2], [2]), ([], []), ([4], [4]), ([3, 5], [3, 5]), ([6, 2, 0, 1, 2, 3, 4, 5, 6], [0, 6])])
def asm_text.B7 : List Nat := [0, 0, 3, 7, 0, 16, 63, 127]
theorem asm_text.tab7 : rtab .any (opsOf Tryz.f19 7) = asm_text.T7 := by kernel_rfl
theorem asm_text.bits7 : waitsOk asm_text.T7.2 asm_text.B7 = true := by kernel_rfl
set_option maxHeartbeats 8000000 in
set_option maxRecDepth 100000 in
theorem asm_text.calls (a0_0 : ByteArray) (a0_1 : Int) (a0_2 : Int) (a0_3 : Int) (a0_4 : Int) (a0_5 : Int) (a0_6 : ByteArray) (r : ByteArray) (w : World) (HTAB0 : Env w) (h : asm_text.f a0_0 a0_1 a0_2 a0_3 a0_4 a0_5 a0_6 = some r) :
  Calls Tryz.prog 19 #[.agg #[.string a0_0, .int .i64 a0_1, .int .i64 a0_2, .int .i64 a0_3, .int .i64 a0_4, .int .i32 a0_5, .string a0_6]] w fun e w' => e = .returned (.string r) ∧ Below w.heap.size w w' := by
 have HTAB := Q4 HTAB0
 clear HTAB0
 have hu40 := Tryz.underlying40
 have hu38 := Tryz.underlying38
 have HB := Q4 (Below.refl w.heap.size w)
 have H := h
 unfold asm_text.f at H
 clear h
 by_cases c2 : a0_0.toList = ([] : List UInt8)
 ·rw [if_pos c2] at H
  have c2b0 : (a0_0.toList == ([] : List UInt8)) = true := Qm c2
  have c2b1 : (a0_0.toList != ([] : List UInt8)) = false := Qh c2
  clear c2
  replace H := Qi H
  obtain ⟨t102, A30, H⟩ := H
  try dsimp only at H
  have A3 := Q4 A30
  clear A30
  by_cases c4 : a0_6.toList = ([] : List UInt8)
  ·rw [if_pos c4] at H
   have c4b0 : (a0_6.toList == ([] : List UInt8)) = true := Qm c4
   have c4b1 : (a0_6.toList != ([] : List UInt8)) = false := Qh c4
   clear c4
   obtain rfl := Qn H
   go_enter Tryz.func19, Tryz.ntmps19
   go_wp2_with (first|((with_reducible refine gate_dst (N := 1) rfl ?_); refine box_event ?hg (N := 1) ?hd (cs := #[.string a0_0, .int .i64 a0_1, .int .i64 a0_2, .int .i64 a0_3, .int .i64 a0_4, .int .i32 a0_5, .string a0_6]) (t := 40) ?hr ?_; (case hd => rfl); (case hg => rfl); (case hr => first|(go_simp; done)|(go_simp; rfl)); intro gb101 hg w5 hbox hb; have n0_ := Q4 (Qg (by repeat (first|(with_reducible first|exact HB.out|apply Q8|apply Q5|apply Q9)|exact HB.out)) hb); have n1_ := Q4 (hbox); have n2_ := Q4 ((by rw [hg]; exact bZ : w.heap.size ≤ gb101)); have n3_ := Q4 ((by rw [hg]; exact bZ : w.heap.size ≤ gb101)); clear HB; have HB := n0_; have BK101 := n1_; have GW101 := n2_; have GE101 := n3_; clear n0_ n1_ n2_ n3_; clear hb hbox hg; have hcz6_0 : w5.cell? ⟨gb101, 0, none⟩ = some (.string a0_0) := (Qe BK101.out 0).trans rfl; have hcz6_1 : w5.cell? ⟨gb101, 1, none⟩ = some (.int .i64 a0_1) := (Qe BK101.out 1).trans rfl; have hcz6_2 : w5.cell? ⟨gb101, 2, none⟩ = some (.int .i64 a0_2) := (Qe BK101.out 2).trans rfl; have hcz6_3 : w5.cell? ⟨gb101, 3, none⟩ = some (.int .i64 a0_3) := (Qe BK101.out 3).trans rfl; have hcz6_4 : w5.cell? ⟨gb101, 4, none⟩ = some (.int .i64 a0_4) := (Qe BK101.out 4).trans rfl; have hcz6_5 : w5.cell? ⟨gb101, 5, none⟩ = some (.int .i32 a0_5) := (Qe BK101.out 5).trans rfl; have hcz6_6 : w5.cell? ⟨gb101, 6, none⟩ = some (.string a0_6) := (Qe BK101.out 6).trans rfl; have hfz6_0 := Qd BK101.out 0; have hfz6_1 := Qd BK101.out 1; have hfz6_2 := Qd BK101.out 2; have hfz6_3 := Qd BK101.out 3; have hfz6_4 := Qd BK101.out 4; have hfz6_5 := Qd BK101.out 5; have hfz6_6 := Qd BK101.out 6)|((with_reducible refine gate_callee (f := 25) rfl ?_); refine gL (some 13) Tryz.func25 #[.agg #[.int .i64 a0_1, .int .i64 a0_2, .int .i64 a0_3, .int .i64 a0_4, .int .i32 a0_5]] ?_; (with_reducible refine (inst_TextE.calls a0_1 a0_2 a0_3 a0_4 a0_5 t102 _ (env_mono HTAB.out (by repeat (first|(with_reducible first|exact HB.out|apply Q8|apply Q5|apply Q9|refine Q6 ?_ GE101.out)|exact HB.out))) A3.out).mono ?_); rintro e w7 ⟨rfl, hb⟩; refine ⟨_, rfl, ?_⟩; have n0_ := Q4 (Qo (g := gb101) (o := .cells #[.string a0_0, .int .i64 a0_1, .int .i64 a0_2, .int .i64 a0_3, .int .i64 a0_4, .int .i32 a0_5, .string a0_6] 40 (0, 0)) (bK BK101) hb); have n1_ := Q4 (Qg (by repeat (first|(with_reducible first|exact HB.out|apply Q8|apply Q5|apply Q9|refine Q6 ?_ GE101.out)|exact HB.out)) hb); clear BK101; clear HB; have BK101 := n0_; have HB := n1_; clear n0_ n1_;(try clear hb);(try clear hb2);(try clear hk);(try clear hi); have hcz8_0 : w7.cell? ⟨gb101, 0, none⟩ = some (.string a0_0) := (Qe BK101.out 0).trans rfl; have hcz8_1 : w7.cell? ⟨gb101, 1, none⟩ = some (.int .i64 a0_1) := (Qe BK101.out 1).trans rfl; have hcz8_2 : w7.cell? ⟨gb101, 2, none⟩ = some (.int .i64 a0_2) := (Qe BK101.out 2).trans rfl; have hcz8_3 : w7.cell? ⟨gb101, 3, none⟩ = some (.int .i64 a0_3) := (Qe BK101.out 3).trans rfl; have hcz8_4 : w7.cell? ⟨gb101, 4, none⟩ = some (.int .i64 a0_4) := (Qe BK101.out 4).trans rfl; have hcz8_5 : w7.cell? ⟨gb101, 5, none⟩ = some (.int .i32 a0_5) := (Qe BK101.out 5).trans rfl; have hcz8_6 : w7.cell? ⟨gb101, 6, none⟩ = some (.string a0_6) := (Qe BK101.out 6).trans rfl; have hfz8_0 := Qd BK101.out 0; have hfz8_1 := Qd BK101.out 1; have hfz8_2 := Qd BK101.out 2; have hfz8_3 := Qd BK101.out 3; have hfz8_4 := Qd BK101.out 4; have hfz8_5 := Qd BK101.out 5; have hfz8_6 := Qd BK101.out 6))
   go_ret
   exact ⟨by first|rfl|(simp [errW_none, errW_some] <;> rfl)|(simp [*, errW_none, errW_some] <;> rfl), by repeat (first|(with_reducible first|exact HB.out|apply Q8|apply Q5|apply Q9|refine Q6 ?_ GE101.out)|exact HB.out)⟩
  ·rw [if_neg c4] at H
   have c4b0 : (a0_6.toList == ([] : List UInt8)) = false := Qk c4
   have c4b1 : (a0_6.toList != ([] : List UInt8)) = true := Ql c4
   replace H := Qi H
   obtain ⟨t103, A90, H⟩ := H
   try dsimp only at H
   have A9 := Q4 A90
   clear A90
   replace H := Qi H
   obtain ⟨t104, A100, H⟩ := H
   try dsimp only at H
   have A10 := Q4 A100
   clear A100
   by_cases c11 : t104.size + 1 ≤ 9223372036854775807
   ·rw [if_pos c11] at H
    have c11b0 := eq_true c11
    have c11b1 : decide (t104.size + 1 ≤ 9223372036854775807) = true := Qj c11
    try have c11b2 : (9223372036854775807 < t104.size + 1) = False := eq_false (Nat.not_lt.2 c11)
    by_cases c12 : (t104 ++ (⟨#[64]⟩ : ByteArray)).size + a0_6.size ≤ 9223372036854775807
    ·rw [if_pos c12] at H
     try have c12z : (9223372036854775807 < t104.size + 1 + a0_6.size) = False := eq_false (Nat.not_lt.2 (by have h0 := c12; simp only [ByteArray.size_append] at h0; exact h0))
     have c12b0 := eq_true c12
     have c12b1 : decide ((t104 ++ (⟨#[64]⟩ : ByteArray)).size + a0_6.size ≤ 9223372036854775807) = true := Qj c12
     try have c12b2 : (9223372036854775807 < (t104 ++ (⟨#[64]⟩ : ByteArray)).size + a0_6.size) = False := eq_false (Nat.not_lt.2 c12)
     by_cases c13 : a0_5 = 0
     ·rw [if_pos c13] at H
      have c13b0 : (a0_5 == 0) = true := Qm c13
      have c13b1 : (a0_5 != 0) = false := Qh c13
      clear c13
      obtain rfl := Qn H
      go_enter Tryz.func19, Tryz.ntmps19
      try go_wp2_with (first|((with_reducible refine gate_dst (N := 1) rfl ?_); refine box_event ?hg (N := 1) ?hd (cs := #[.string a0_0, .int .i64 a0_1, .int .i64 a0_2, .int .i64 a0_3, .int .i64 a0_4, .int .i32 a0_5, .string a0_6]) (t := 40) ?hr ?_; (case hd => rfl); (case hg => rfl); (case hr => first|(go_simp; done)|(go_simp; rfl)); intro gb101 hg w14 hbox hb; have n0_ := Q4 (Qg (by repeat (first|(with_reducible first|exact HB.out|apply Q8|apply Q5|apply Q9)|exact HB.out)) hb); have n1_ := Q4 (hbox); have n2_ := Q4 ((by rw [hg]; exact bZ : w.heap.size ≤ gb101)); have n3_ := Q4 ((by rw [hg]; exact bZ : w.heap.size ≤ gb101)); clear HB; have HB := n0_; have BK101 := n1_; have GW101 := n2_; have GE101 := n3_; clear n0_ n1_ n2_ n3_; clear hb hbox hg; have hcz15_0 : w14.cell? ⟨gb101, 0, none⟩ = some (.string a0_0) := (Qe BK101.out 0).trans rfl; have hcz15_1 : w14.cell? ⟨gb101, 1, none⟩ = some (.int .i64 a0_1) := (Qe BK101.out 1).trans rfl; have hcz15_2 : w14.cell? ⟨gb101, 2, none⟩ = some (.int .i64 a0_2) := (Qe BK101.out 2).trans rfl; have hcz15_3 : w14.cell? ⟨gb101, 3, none⟩ = some (.int .i64 a0_3) := (Qe BK101.out 3).trans rfl; have hcz15_4 : w14.cell? ⟨gb101, 4, none⟩ = some (.int .i64 a0_4) := (Qe BK101.out 4).trans rfl; have hcz15_5 : w14.cell? ⟨gb101, 5, none⟩ = some (.int .i32 a0_5) := (Qe BK101.out 5).trans rfl; have hcz15_6 : w14.cell? ⟨gb101, 6, none⟩ = some (.string a0_6) := (Qe BK101.out 6).trans rfl; have hfz15_0 := Qd BK101.out 0; have hfz15_1 := Qd BK101.out 1; have hfz15_2 := Qd BK101.out 2; have hfz15_3 := Qd BK101.out 3; have hfz15_4 := Qd BK101.out 4; have hfz15_5 := Qd BK101.out 5; have hfz15_6 := Qd BK101.out 6)|((with_reducible refine gate_callee (f := 25) rfl ?_); refine gL (some 13) Tryz.func25 #[.agg #[.int .i64 a0_1, .int .i64 a0_2, .int .i64 a0_3, .int .i64 a0_4, .int .i32 a0_5]] ?_; (with_reducible refine (inst_TextE.calls a0_1 a0_2 a0_3 a0_4 a0_5 t102 _ (env_mono HTAB.out (by repeat (first|(with_reducible first|exact HB.out|apply Q8|apply Q5|apply Q9|refine Q6 ?_ GE101.out)|exact HB.out))) A3.out).mono ?_); rintro e w16 ⟨rfl, hb⟩; refine ⟨_, rfl, ?_⟩; have n0_ := Q4 (Qo (g := gb101) (o := .cells #[.string a0_0, .int .i64 a0_1, .int .i64 a0_2, .int .i64 a0_3, .int .i64 a0_4, .int .i32 a0_5, .string a0_6] 40 (0, 0)) (bK BK101) hb); have n1_ := Q4 (Qg (by repeat (first|(with_reducible first|exact HB.out|apply Q8|apply Q5|apply Q9|refine Q6 ?_ GE101.out)|exact HB.out)) hb); clear BK101; clear HB; have BK101 := n0_; have HB := n1_; clear n0_ n1_;(try clear hb);(try clear hb2);(try clear hk);(try clear hi); have hcz17_0 : w16.cell? ⟨gb101, 0, none⟩ = some (.string a0_0) := (Qe BK101.out 0).trans rfl; have hcz17_1 : w16.cell? ⟨gb101, 1, none⟩ = some (.int .i64 a0_1) := (Qe BK101.out 1).trans rfl; have hcz17_2 : w16.cell? ⟨gb101, 2, none⟩ = some (.int .i64 a0_2) := (Qe BK101.out 2).trans rfl; have hcz17_3 : w16.cell? ⟨gb101, 3, none⟩ = some (.int .i64 a0_3) := (Qe BK101.out 3).trans rfl; have hcz17_4 : w16.cell? ⟨gb101, 4, none⟩ = some (.int .i64 a0_4) := (Qe BK101.out 4).trans rfl; have hcz17_5 : w16.cell? ⟨gb101, 5, none⟩ = some (.int .i32 a0_5) := (Qe BK101.out 5).trans rfl; have hcz17_6 : w16.cell? ⟨gb101, 6, none⟩ = some (.string a0_6) := (Qe BK101.out 6).trans rfl; have hfz17_0 := Qd BK101.out 0; have hfz17_1 := Qd BK101.out 1; have hfz17_2 := Qd BK101.out 2; have hfz17_3 := Qd BK101.out 3; have hfz17_4 := Qd BK101.out 4; have hfz17_5 := Qd BK101.out 5; have hfz17_6 := Qd BK101.out 6)|((with_reducible refine gate_callee (f := 43) rfl ?_); refine gL (some 22) Tryz.func43 #[.int .i64 (wrap64 (a0_5))] ?_; (with_reducible refine (strconv_Itoa.calls (wrap64 (a0_5)) t103 _ (env_mono HTAB.out (by repeat (first|(with_reducible first|exact HB.out|apply Q8|apply Q5|apply Q9|refine Q6 ?_ GE101.out)|exact HB.out))) A9.out).mono ?_); rintro e w18 ⟨rfl, hb⟩; refine ⟨_, rfl, ?_⟩; have n0_ := Q4 (Qo (g := gb101) (o := .cells #[.string a0_0, .int .i64 a0_1, .int .i64 a0_2, .int .i64 a0_3, .int .i64 a0_4, .int .i32 a0_5, .string a0_6] 40 (0, 0)) (bK BK101) hb); have n1_ := Q4 (Qg (by repeat (first|(with_reducible first|exact HB.out|apply Q8|apply Q5|apply Q9|refine Q6 ?_ GE101.out)|exact HB.out)) hb); clear BK101; clear HB; have BK101 := n0_; have HB := n1_; clear n0_ n1_;(try clear hb);(try clear hb2);(try clear hk);(try clear hi)))
      have n0_ := Q4 (Qb BK101.out)
      have n1_ := Q4 (Q9 HB.out)
      clear BK101
      clear HB
      have BK101 := n0_
      have HB := n1_
      clear n0_ n1_
      refine start_ (n := 8) (S := fun w' => w'.cell? ⟨gb101, 0, none⟩ = some (.string a0_0) ∧ w'.cell? ⟨gb101, 1, none⟩ = some (.int .i64 a0_1) ∧ w'.cell? ⟨gb101, 2, none⟩ = some (.int .i64 a0_2) ∧ w'.cell? ⟨gb101, 3, none⟩ = some (.int .i64 a0_3) ∧ w'.cell? ⟨gb101, 4, none⟩ = some (.int .i64 a0_4) ∧ w'.cell? ⟨gb101, 5, none⟩ = some (.int .i32 a0_5) ∧ w'.cell? ⟨gb101, 6, none⟩ = some (.string a0_6)) (ds := []) (pm 8 0) (by kernel_rfl) rfl rfl ⟨(Qe BK101.out 0).trans rfl, (Qe BK101.out 1).trans rfl, (Qe BK101.out 2).trans rfl, (Qe BK101.out 3).trans rfl, (Qe BK101.out 4).trans rfl, (Qe BK101.out 5).trans rfl, (Qe BK101.out 6).trans rfl⟩ (fun hHeld => ?_); refine with_tabW asm_text.tab7 asm_text.bits7 (fun HT_ HW_ => ?_)
      generalize w18.drew = w19 at BK101 HB hHeld ⊢
      refine pure_ (i := 0) (N := some 23) (v := ?_) (a' := ?_) (pm 8 1) rfl rfl (Qp HT_.out (by kernel_rfl)) (fun _ _ _ h => h) (Or.inl ⟨by rfl, ?_⟩) ?_ ?_
      rotate_left
      ·intro w'
       go_simp
       with_reducible rfl
      rotate_left
      ·simp only [Act.put, Q1,Q2,Q3, i64_w, i32_w]
       rfl
      refine pure_ (i := 1) (N := some 24) (v := ?_) (a' := ?_) (pm 8 2) rfl rfl (Qp HT_.out (by kernel_rfl)) (fun _ _ _ h => h) (Or.inl ⟨by rfl, ?_⟩) ?_ ?_
      rotate_left
      ·intro w'
       go_simp
       with_reducible rfl
      rotate_left
      ·simp only [Act.put, Q1,Q2,Q3, i64_w, i32_w]
       rfl
      refine pure_ (i := 4) (N := some 27) (v := ?_) (a' := ?_) #[true,true,false,false,true,false,false,false] rfl rfl (Qp HT_.out (by kernel_rfl)) (fun _ _ _ h => h) (Or.inl ⟨by rfl, ?_⟩) ?_ ?_
      rotate_left
      ·intro w'
       go_simp
       with_reducible rfl
      rotate_left
      ·simp only [Act.put, Q1,Q2,Q3, i64_w, i32_w]
       rfl
      refine take_ (i := 5) (N := some 28) (v := ?_) (a' := ?_) #[true,true,false,false,true,true,false,false] rfl rfl (take_ofW HT_.out HW_.out (by kernel_rfl)) (fun _ _ _ h => h) (Or.inl ⟨by rfl, ?_⟩) hHeld ?_ ?_
      rotate_left
      ·rintro w' ⟨s0, s1, s2, s3, s4, s5, s6⟩
       go_simp
       with_reducible rfl
      rotate_left
      ·simp only [Act.put, Q1,Q2,Q3, i64_w, i32_w]
       rfl
      refine one_ (i := 2) (N := some 25) #[true,true,true,false,true,true,false,false] rfl rfl (one_of HT_.out (by kernel_rfl)) (by decide) (fun K hK => ?_)
      refine goes_ Tryz.func44 (by kernel_rfl) rfl #[.string t102, .string t103] (by rfl) rfl rfl (by (try simp only [List.map_toArray, List.map_cons, List.map_nil]); first | done|rfl|(simp only [List.length_drop, List.length_take]; rfl)) ?_
      with_reducible refine (strings_TrimSuffix.calls t102 t103 t104 _ A10.out).mono ?_
      rintro e w20 ⟨rfl, hb⟩
      refine ⟨_, rfl, ?_⟩
      have n0_ := Q4 (Qo (g := gb101) (o := .cells #[.string a0_0, .int .i64 a0_1, .int .i64 a0_2, .int .i64 a0_3, .int .i64 a0_4, .int .i32 a0_5, .string a0_6] 40 (0, 0)) (bK BK101) hb)
      have n1_ := Q4 (Qg (by repeat (first|(with_reducible first|exact HB.out|apply Q8|apply Q5|apply Q9|refine Q6 ?_ GE101.out)|exact HB.out)) hb)
      clear BK101
      clear HB
      have BK101 := n0_
      have HB := n1_
      clear n0_ n1_
      (try clear hb)
      (try clear hb2)
      (try clear hk)
      (try clear hi)
      refine hK.out _ _ ⟨(Qe BK101.out 0).trans rfl, (Qe BK101.out 1).trans rfl, (Qe BK101.out 2).trans rfl, (Qe BK101.out 3).trans rfl, (Qe BK101.out 4).trans rfl, (Qe BK101.out 5).trans rfl, (Qe BK101.out 6).trans rfl⟩ (fun hHeld => ?_)
      clear hK K
      refine norm_ (a' := ?_) ?_ ?_
      rotate_left
      ·show Act.put _ (some 25) _ = _
       simp only [Act.put, Q1,Q2,Q3, i64_w, i32_w]
       rfl
      refine pure_ (i := 3) (N := some 26) (v := ?_) (a' := ?_) (pm 8 6) rfl rfl (Qp HT_.out (by kernel_rfl)) (fun _ _ _ h => h) (Or.inl ⟨by rfl, ?_⟩) ?_ ?_
      rotate_left
      ·intro w'
       go_simp
       with_reducible rfl
      rotate_left
      ·simp only [Act.put, Q1,Q2,Q3, i64_w, i32_w]
       rfl
      refine pure_ (i := 6) (N := some 29) (v := ?_) (a' := ?_) (pm 8 7) rfl rfl (Qp HT_.out (by kernel_rfl)) (fun _ _ _ h => h) (Or.inl ⟨by rfl, ?_⟩) ?_ ?_
      rotate_left
      ·intro w'
       go_simp
       with_reducible rfl
      rotate_left
      ·simp only [Act.put, Q1,Q2,Q3, i64_w, i32_w]
       rfl
      refine pure_ (i := 7) (N := some 3) (v := ?_) (a' := ?_) (pm 8 8) rfl rfl (Qp HT_.out (by kernel_rfl)) (fun _ _ _ h => h) (Or.inl ⟨by rfl, ?_⟩) ?_ ?_
      rotate_left
      ·intro w'
       go_simp
       with_reducible rfl
      rotate_left
      ·simp only [Act.put, Q1,Q2,Q3, i64_w, i32_w]
       rfl
      refine done_ (done_of HT_.out (by kernel_rfl)) ?_
      have hcz21_0 : w20.cell? ⟨gb101, 0, none⟩ = some (.string a0_0) := (Qe BK101.out 0).trans rfl
      have hcz21_1 : w20.cell? ⟨gb101, 1, none⟩ = some (.int .i64 a0_1) := (Qe BK101.out 1).trans rfl
      have hcz21_2 : w20.cell? ⟨gb101, 2, none⟩ = some (.int .i64 a0_2) := (Qe BK101.out 2).trans rfl
      have hcz21_3 : w20.cell? ⟨gb101, 3, none⟩ = some (.int .i64 a0_3) := (Qe BK101.out 3).trans rfl
      have hcz21_4 : w20.cell? ⟨gb101, 4, none⟩ = some (.int .i64 a0_4) := (Qe BK101.out 4).trans rfl
      have hcz21_5 : w20.cell? ⟨gb101, 5, none⟩ = some (.int .i32 a0_5) := (Qe BK101.out 5).trans rfl
      have hcz21_6 : w20.cell? ⟨gb101, 6, none⟩ = some (.string a0_6) := (Qe BK101.out 6).trans rfl
      have hfz21_0 := Qd BK101.out 0
      have hfz21_1 := Qd BK101.out 1
      have hfz21_2 := Qd BK101.out 2
      have hfz21_3 := Qd BK101.out 3
      have hfz21_4 := Qd BK101.out 4
      have hfz21_5 := Qd BK101.out 5
      have hfz21_6 := Qd BK101.out 6
      try go_wp2
      go_ret
      exact ⟨by first|rfl|(simp [errW_none, errW_some] <;> rfl)|(simp [*, errW_none, errW_some] <;> rfl), by repeat (first|(with_reducible first|exact HB.out|apply Q8|apply Q5|apply Q9|refine Q6 ?_ GE101.out)|exact HB.out)⟩
     ·rw [if_neg c13] at H
      have c13b0 : (a0_5 == 0) = false := Qk c13
      have c13b1 : (a0_5 != 0) = true := Ql c13
      by_cases c22 : 1 + t103.size ≤ 9223372036854775807
      ·rw [if_pos c22] at H
       have c22b0 := eq_true c22
       have c22b1 : decide (1 + t103.size ≤ 9223372036854775807) = true := Qj c22
       try have c22b2 : (9223372036854775807 < 1 + t103.size) = False := eq_false (Nat.not_lt.2 c22)
       by_cases c23 : ((t104 ++ (⟨#[64]⟩ : ByteArray)) ++ a0_6).size + ((⟨#[43]⟩ : ByteArray) ++ t103).size ≤ 9223372036854775807
       ·rw [if_pos c23] at H
        have c23b0 := eq_true c23
        have c23b1 : decide (((t104 ++ (⟨#[64]⟩ : ByteArray)) ++ a0_6).size + ((⟨#[43]⟩ : ByteArray) ++ t103).size ≤ 9223372036854775807) = true := Qj c23
        try have c23b2 : (9223372036854775807 < ((t104 ++ (⟨#[64]⟩ : ByteArray)) ++ a0_6).size + ((⟨#[43]⟩ : ByteArray) ++ t103).size) = False := eq_false (Nat.not_lt.2 c23)
        obtain rfl := Qn H
        go_enter Tryz.func19, Tryz.ntmps19
        try go_wp2_with (first|((with_reducible refine gate_dst (N := 1) rfl ?_); refine box_event ?hg (N := 1) ?hd (cs := #[.string a0_0, .int .i64 a0_1, .int .i64 a0_2, .int .i64 a0_3, .int .i64 a0_4, .int .i32 a0_5, .string a0_6]) (t := 40) ?hr ?_; (case hd => rfl); (case hg => rfl); (case hr => first|(go_simp; done)|(go_simp; rfl)); intro gb101 hg w24 hbox hb; have n0_ := Q4 (Qg (by repeat (first|(with_reducible first|exact HB.out|apply Q8|apply Q5|apply Q9)|exact HB.out)) hb); have n1_ := Q4 (hbox); have n2_ := Q4 ((by rw [hg]; exact bZ : w.heap.size ≤ gb101)); have n3_ := Q4 ((by rw [hg]; exact bZ : w.heap.size ≤ gb101)); clear HB; have HB := n0_; have BK101 := n1_; have GW101 := n2_; have GE101 := n3_; clear n0_ n1_ n2_ n3_; clear hb hbox hg; have hcz25_0 : w24.cell? ⟨gb101, 0, none⟩ = some (.string a0_0) := (Qe BK101.out 0).trans rfl; have hcz25_1 : w24.cell? ⟨gb101, 1, none⟩ = some (.int .i64 a0_1) := (Qe BK101.out 1).trans rfl; have hcz25_2 : w24.cell? ⟨gb101, 2, none⟩ = some (.int .i64 a0_2) := (Qe BK101.out 2).trans rfl; have hcz25_3 : w24.cell? ⟨gb101, 3, none⟩ = some (.int .i64 a0_3) := (Qe BK101.out 3).trans rfl; have hcz25_4 : w24.cell? ⟨gb101, 4, none⟩ = some (.int .i64 a0_4) := (Qe BK101.out 4).trans rfl; have hcz25_5 : w24.cell? ⟨gb101, 5, none⟩ = some (.int .i32 a0_5) := (Qe BK101.out 5).trans rfl; have hcz25_6 : w24.cell? ⟨gb101, 6, none⟩ = some (.string a0_6) := (Qe BK101.out 6).trans rfl; have hfz25_0 := Qd BK101.out 0; have hfz25_1 := Qd BK101.out 1; have hfz25_2 := Qd BK101.out 2; have hfz25_3 := Qd BK101.out 3; have hfz25_4 := Qd BK101.out 4; have hfz25_5 := Qd BK101.out 5; have hfz25_6 := Qd BK101.out 6)|((with_reducible refine gate_callee (f := 25) rfl ?_); refine gL (some 13) Tryz.func25 #[.agg #[.int .i64 a0_1, .int .i64 a0_2, .int .i64 a0_3, .int .i64 a0_4, .int .i32 a0_5]] ?_; (with_reducible refine (inst_TextE.calls a0_1 a0_2 a0_3 a0_4 a0_5 t102 _ (env_mono HTAB.out (by repeat (first|(with_reducible first|exact HB.out|apply Q8|apply Q5|apply Q9|refine Q6 ?_ GE101.out)|exact HB.out))) A3.out).mono ?_); rintro e w26 ⟨rfl, hb⟩; refine ⟨_, rfl, ?_⟩; have n0_ := Q4 (Qo (g := gb101) (o := .cells #[.string a0_0, .int .i64 a0_1, .int .i64 a0_2, .int .i64 a0_3, .int .i64 a0_4, .int .i32 a0_5, .string a0_6] 40 (0, 0)) (bK BK101) hb); have n1_ := Q4 (Qg (by repeat (first|(with_reducible first|exact HB.out|apply Q8|apply Q5|apply Q9|refine Q6 ?_ GE101.out)|exact HB.out)) hb); clear BK101; clear HB; have BK101 := n0_; have HB := n1_; clear n0_ n1_;(try clear hb);(try clear hb2);(try clear hk);(try clear hi); have hcz27_0 : w26.cell? ⟨gb101, 0, none⟩ = some (.string a0_0) := (Qe BK101.out 0).trans rfl; have hcz27_1 : w26.cell? ⟨gb101, 1, none⟩ = some (.int .i64 a0_1) := (Qe BK101.out 1).trans rfl; have hcz27_2 : w26.cell? ⟨gb101, 2, none⟩ = some (.int .i64 a0_2) := (Qe BK101.out 2).trans rfl; have hcz27_3 : w26.cell? ⟨gb101, 3, none⟩ = some (.int .i64 a0_3) := (Qe BK101.out 3).trans rfl; have hcz27_4 : w26.cell? ⟨gb101, 4, none⟩ = some (.int .i64 a0_4) := (Qe BK101.out 4).trans rfl; have hcz27_5 : w26.cell? ⟨gb101, 5, none⟩ = some (.int .i32 a0_5) := (Qe BK101.out 5).trans rfl; have hcz27_6 : w26.cell? ⟨gb101, 6, none⟩ = some (.string a0_6) := (Qe BK101.out 6).trans rfl; have hfz27_0 := Qd BK101.out 0; have hfz27_1 := Qd BK101.out 1; have hfz27_2 := Qd BK101.out 2; have hfz27_3 := Qd BK101.out 3; have hfz27_4 := Qd BK101.out 4; have hfz27_5 := Qd BK101.out 5; have hfz27_6 := Qd BK101.out 6)|((with_reducible refine gate_callee (f := 43) rfl ?_); refine gL (some 22) Tryz.func43 #[.int .i64 (wrap64 (a0_5))] ?_; (with_reducible refine (strconv_Itoa.calls (wrap64 (a0_5)) t103 _ (env_mono HTAB.out (by repeat (first|(with_reducible first|exact HB.out|apply Q8|apply Q5|apply Q9|refine Q6 ?_ GE101.out)|exact HB.out))) A9.out).mono ?_); rintro e w28 ⟨rfl, hb⟩; refine ⟨_, rfl, ?_⟩; have n0_ := Q4 (Qo (g := gb101) (o := .cells #[.string a0_0, .int .i64 a0_1, .int .i64 a0_2, .int .i64 a0_3, .int .i64 a0_4, .int .i32 a0_5, .string a0_6] 40 (0, 0)) (bK BK101) hb); have n1_ := Q4 (Qg (by repeat (first|(with_reducible first|exact HB.out|apply Q8|apply Q5|apply Q9|refine Q6 ?_ GE101.out)|exact HB.out)) hb); clear BK101; clear HB; have BK101 := n0_; have HB := n1_; clear n0_ n1_;(try clear hb);(try clear hb2);(try clear hk);(try clear hi)))
        have n0_ := Q4 (Qb BK101.out)
        have n1_ := Q4 (Q9 HB.out)
        clear BK101
        clear HB
        have BK101 := n0_
        have HB := n1_
        clear n0_ n1_
        refine start_ (n := 8) (S := fun w' => w'.cell? ⟨gb101, 0, none⟩ = some (.string a0_0) ∧ w'.cell? ⟨gb101, 1, none⟩ = some (.int .i64 a0_1) ∧ w'.cell? ⟨gb101, 2, none⟩ = some (.int .i64 a0_2) ∧ w'.cell? ⟨gb101, 3, none⟩ = some (.int .i64 a0_3) ∧ w'.cell? ⟨gb101, 4, none⟩ = some (.int .i64 a0_4) ∧ w'.cell? ⟨gb101, 5, none⟩ = some (.int .i32 a0_5) ∧ w'.cell? ⟨gb101, 6, none⟩ = some (.string a0_6)) (ds := []) (pm 8 0) (by kernel_rfl) rfl rfl ⟨(Qe BK101.out 0).trans rfl, (Qe BK101.out 1).trans rfl, (Qe BK101.out 2).trans rfl, (Qe BK101.out 3).trans rfl, (Qe BK101.out 4).trans rfl, (Qe BK101.out 5).trans rfl, (Qe BK101.out 6).trans rfl⟩ (fun hHeld => ?_); refine with_tabW asm_text.tab7 asm_text.bits7 (fun HT_ HW_ => ?_)
        generalize w28.drew = w29 at BK101 HB hHeld ⊢
        refine pure_ (i := 0) (N := some 23) (v := ?_) (a' := ?_) (pm 8 1) rfl rfl (Qp HT_.out (by kernel_rfl)) (fun _ _ _ h => h) (Or.inl ⟨by rfl, ?_⟩) ?_ ?_
        rotate_left
        ·intro w'
         go_simp
         with_reducible rfl
        rotate_left
        ·simp only [Act.put, Q1,Q2,Q3, i64_w, i32_w]
         rfl
        refine pure_ (i := 1) (N := some 24) (v := ?_) (a' := ?_) (pm 8 2) rfl rfl (Qp HT_.out (by kernel_rfl)) (fun _ _ _ h => h) (Or.inl ⟨by rfl, ?_⟩) ?_ ?_
        rotate_left
        ·intro w'
         go_simp
         with_reducible rfl
        rotate_left
        ·simp only [Act.put, Q1,Q2,Q3, i64_w, i32_w]
         rfl
        refine pure_ (i := 4) (N := some 27) (v := ?_) (a' := ?_) #[true,true,false,false,true,false,false,false] rfl rfl (Qp HT_.out (by kernel_rfl)) (fun _ _ _ h => h) (Or.inl ⟨by rfl, ?_⟩) ?_ ?_
        rotate_left
        ·intro w'
         go_simp
         with_reducible rfl
        rotate_left
        ·simp only [Act.put, Q1,Q2,Q3, i64_w, i32_w]
         rfl
        refine take_ (i := 5) (N := some 28) (v := ?_) (a' := ?_) #[true,true,false,false,true,true,false,false] rfl rfl (take_ofW HT_.out HW_.out (by kernel_rfl)) (fun _ _ _ h => h) (Or.inl ⟨by rfl, ?_⟩) hHeld ?_ ?_
        rotate_left
        ·rintro w' ⟨s0, s1, s2, s3, s4, s5, s6⟩
         go_simp
         with_reducible rfl
        rotate_left
        ·simp only [Act.put, Q1,Q2,Q3, i64_w, i32_w]
         rfl
        refine one_ (i := 2) (N := some 25) #[true,true,true,false,true,true,false,false] rfl rfl (one_of HT_.out (by kernel_rfl)) (by decide) (fun K hK => ?_)
        refine goes_ Tryz.func44 (by kernel_rfl) rfl #[.string t102, .string t103] (by rfl) rfl rfl (by (try simp only [List.map_toArray, List.map_cons, List.map_nil]); first | done|rfl|(simp only [List.length_drop, List.length_take]; rfl)) ?_
        with_reducible refine (strings_TrimSuffix.calls t102 t103 t104 _ A10.out).mono ?_
        rintro e w30 ⟨rfl, hb⟩
        refine ⟨_, rfl, ?_⟩
        have n0_ := Q4 (Qo (g := gb101) (o := .cells #[.string a0_0, .int .i64 a0_1, .int .i64 a0_2, .int .i64 a0_3, .int .i64 a0_4, .int .i32 a0_5, .string a0_6] 40 (0, 0)) (bK BK101) hb)
        have n1_ := Q4 (Qg (by repeat (first|(with_reducible first|exact HB.out|apply Q8|apply Q5|apply Q9|refine Q6 ?_ GE101.out)|exact HB.out)) hb)
        clear BK101
        clear HB
        have BK101 := n0_
        have HB := n1_
        clear n0_ n1_
        (try clear hb)
        (try clear hb2)
        (try clear hk)
        (try clear hi)
        refine hK.out _ _ ⟨(Qe BK101.out 0).trans rfl, (Qe BK101.out 1).trans rfl, (Qe BK101.out 2).trans rfl, (Qe BK101.out 3).trans rfl, (Qe BK101.out 4).trans rfl, (Qe BK101.out 5).trans rfl, (Qe BK101.out 6).trans rfl⟩ (fun hHeld => ?_)
        clear hK K
        refine norm_ (a' := ?_) ?_ ?_
        rotate_left
        ·show Act.put _ (some 25) _ = _
         simp only [Act.put, Q1,Q2,Q3, i64_w, i32_w]
         rfl
        refine pure_ (i := 3) (N := some 26) (v := ?_) (a' := ?_) (pm 8 6) rfl rfl (Qp HT_.out (by kernel_rfl)) (fun _ _ _ h => h) (Or.inl ⟨by rfl, ?_⟩) ?_ ?_
        rotate_left
        ·intro w'
         go_simp
         with_reducible rfl
        rotate_left
        ·simp only [Act.put, Q1,Q2,Q3, i64_w, i32_w]
         rfl
        refine pure_ (i := 6) (N := some 29) (v := ?_) (a' := ?_) (pm 8 7) rfl rfl (Qp HT_.out (by kernel_rfl)) (fun _ _ _ h => h) (Or.inl ⟨by rfl, ?_⟩) ?_ ?_
        rotate_left
        ·intro w'
         go_simp
         with_reducible rfl
        rotate_left
        ·simp only [Act.put, Q1,Q2,Q3, i64_w, i32_w]
         rfl
        refine pure_ (i := 7) (N := some 3) (v := ?_) (a' := ?_) (pm 8 8) rfl rfl (Qp HT_.out (by kernel_rfl)) (fun _ _ _ h => h) (Or.inl ⟨by rfl, ?_⟩) ?_ ?_
        rotate_left
        ·intro w'
         go_simp
         with_reducible rfl
        rotate_left
        ·simp only [Act.put, Q1,Q2,Q3, i64_w, i32_w]
         rfl
        refine done_ (done_of HT_.out (by kernel_rfl)) ?_
        have hcz31_0 : w30.cell? ⟨gb101, 0, none⟩ = some (.string a0_0) := (Qe BK101.out 0).trans rfl
        have hcz31_1 : w30.cell? ⟨gb101, 1, none⟩ = some (.int .i64 a0_1) := (Qe BK101.out 1).trans rfl
        have hcz31_2 : w30.cell? ⟨gb101, 2, none⟩ = some (.int .i64 a0_2) := (Qe BK101.out 2).trans rfl
        have hcz31_3 : w30.cell? ⟨gb101, 3, none⟩ = some (.int .i64 a0_3) := (Qe BK101.out 3).trans rfl
        have hcz31_4 : w30.cell? ⟨gb101, 4, none⟩ = some (.int .i64 a0_4) := (Qe BK101.out 4).trans rfl
        have hcz31_5 : w30.cell? ⟨gb101, 5, none⟩ = some (.int .i32 a0_5) := (Qe BK101.out 5).trans rfl
        have hcz31_6 : w30.cell? ⟨gb101, 6, none⟩ = some (.string a0_6) := (Qe BK101.out 6).trans rfl
        have hfz31_0 := Qd BK101.out 0
        have hfz31_1 := Qd BK101.out 1
        have hfz31_2 := Qd BK101.out 2
        have hfz31_3 := Qd BK101.out 3
        have hfz31_4 := Qd BK101.out 4
        have hfz31_5 := Qd BK101.out 5
        have hfz31_6 := Qd BK101.out 6
        try go_wp2
        go_ret
        exact ⟨by first|rfl|(simp [errW_none, errW_some] <;> rfl)|(simp [*, errW_none, errW_some] <;> rfl), by repeat (first|(with_reducible first|exact HB.out|apply Q8|apply Q5|apply Q9|refine Q6 ?_ GE101.out)|exact HB.out)⟩
       ·rw [if_neg c23] at H
        exact absurd H (by simp)
      ·rw [if_neg c22] at H
       exact absurd H (by simp)
    ·rw [if_neg c12] at H
     exact absurd H (by simp)
   ·rw [if_neg c11] at H
    exact absurd H (by simp)
 ·rw [if_neg c2] at H
  have c2b0 : (a0_0.toList == ([] : List UInt8)) = false := Qk c2
  have c2b1 : (a0_0.toList != ([] : List UInt8)) = true := Ql c2
  by_cases c32 : a0_0.size + 1 ≤ 9223372036854775807
  ·rw [if_pos c32] at H
   have c32b0 := eq_true c32
   have c32b1 : decide (a0_0.size + 1 ≤ 9223372036854775807) = true := Qj c32
   try have c32b2 : (9223372036854775807 < a0_0.size + 1) = False := eq_false (Nat.not_lt.2 c32)
   obtain rfl := Qn H
   go_enter Tryz.func19, Tryz.ntmps19
   go_wp2_with (first|((with_reducible refine gate_dst (N := 1) rfl ?_); refine box_event ?hg (N := 1) ?hd (cs := #[.string a0_0, .int .i64 a0_1, .int .i64 a0_2, .int .i64 a0_3, .int .i64 a0_4, .int .i32 a0_5, .string a0_6]) (t := 40) ?hr ?_; (case hd => rfl); (case hg => rfl); (case hr => first|(go_simp; done)|(go_simp; rfl)); intro gb101 hg w33 hbox hb; have n0_ := Q4 (Qg (by repeat (first|(with_reducible first|exact HB.out|apply Q8|apply Q5|apply Q9)|exact HB.out)) hb); have n1_ := Q4 (hbox); have n2_ := Q4 ((by rw [hg]; exact bZ : w.heap.size ≤ gb101)); have n3_ := Q4 ((by rw [hg]; exact bZ : w.heap.size ≤ gb101)); clear HB; have HB := n0_; have BK101 := n1_; have GW101 := n2_; have GE101 := n3_; clear n0_ n1_ n2_ n3_; clear hb hbox hg; have hcz34_0 : w33.cell? ⟨gb101, 0, none⟩ = some (.string a0_0) := (Qe BK101.out 0).trans rfl; have hcz34_1 : w33.cell? ⟨gb101, 1, none⟩ = some (.int .i64 a0_1) := (Qe BK101.out 1).trans rfl; have hcz34_2 : w33.cell? ⟨gb101, 2, none⟩ = some (.int .i64 a0_2) := (Qe BK101.out 2).trans rfl; have hcz34_3 : w33.cell? ⟨gb101, 3, none⟩ = some (.int .i64 a0_3) := (Qe BK101.out 3).trans rfl; have hcz34_4 : w33.cell? ⟨gb101, 4, none⟩ = some (.int .i64 a0_4) := (Qe BK101.out 4).trans rfl; have hcz34_5 : w33.cell? ⟨gb101, 5, none⟩ = some (.int .i32 a0_5) := (Qe BK101.out 5).trans rfl; have hcz34_6 : w33.cell? ⟨gb101, 6, none⟩ = some (.string a0_6) := (Qe BK101.out 6).trans rfl; have hfz34_0 := Qd BK101.out 0; have hfz34_1 := Qd BK101.out 1; have hfz34_2 := Qd BK101.out 2; have hfz34_3 := Qd BK101.out 3; have hfz34_4 := Qd BK101.out 4; have hfz34_5 := Qd BK101.out 5; have hfz34_6 := Qd BK101.out 6))
   go_ret
   exact ⟨by first|rfl|(simp [errW_none, errW_some] <;> rfl)|(simp [*, errW_none, errW_some] <;> rfl), by repeat (first|(with_reducible first|exact HB.out|apply Q8|apply Q5|apply Q9|refine Q6 ?_ GE101.out)|exact HB.out)⟩
  ·rw [if_neg c32] at H
   exact absurd H (by simp)

/-! ### asm_operation: function 30 -/
def asm_operation.l0 : Nat → ByteArray → Int → Option (Int)
 | 0, _, _ => none
 | k + 1, x0, x7 => if x7 < 26 then ((inst_TextE.f x7 0 0 0 0).bind fun t105 => ((strings_Cut.f t105 (⟨#[32]⟩ : ByteArray)).bind fun bt106 => (if bt106.1.toList = x0.toList then (some x7) else (asm_operation.l0 k x0 (wrap64 (x7 + 1)))))) else (some (-1))
def asm_operation.f (k : Nat) (a0 : ByteArray) : Option (Int) := asm_operation.l0 k a0 0
set_option maxHeartbeats 8000000 in
set_option maxRecDepth 100000 in
theorem asm_operation.calls (k : Nat) (a0 : ByteArray) (r : Int) (w : World) (HTAB0 : Env w) (h : asm_operation.f k a0 = some r) :
  Calls Tryz.prog 30 #[.string a0] w fun e w' => e = .returned (.int .i64 r) ∧ Below w.heap.size w w' := by
 have HTAB := Q4 HTAB0
 clear HTAB0
 have hu38 := Tryz.underlying38
 have HB := Q4 (Below.refl w.heap.size w)
 have H : (asm_operation.l0 k a0 0) = some r := h
 clear h
 have H' := Q4 H
 clear H
 go_enter Tryz.func30, Tryz.ntmps30
 go_wp2
 go_loopg [7] k (fun kq v7 w' => ∃ (x7_1 : Int), v7 = .int .i64 x7_1 ∧ Aside0 (asm_operation.l0 kq a0 x7_1 = some r) ∧ Aside0 (kq ≤ k) ∧ Aside0 (Below w.heap.size w w'))
 case atStart => exact ⟨(0), (by first|rfl|(simp; done)|(simp [*]; done)), H', ⟨Nat.le_refl _⟩, ⟨by repeat (first|(with_reducible first|exact HB.out|apply Q8|apply Q5|apply Q9)|exact HB.out)⟩⟩
 case round =>
  clear H'
  obtain ⟨x7_1, rfl, HA, HK1, HB⟩ := hrel
  cases gk with
  | zero => exact absurd HA.out (by simp [asm_operation.l0])
  | succ k1 =>
   have H := HA.out
   clear HA
   simp only [asm_operation.l0] at H
   by_cases c2 : x7_1 < 26
   ·rw [if_pos c2] at H
    have c2b0 : decide (x7_1 < 26) = true := Qj c2
    clear c2
    replace H := Qi H
    obtain ⟨t105, A30, H⟩ := H
    try dsimp only at H
    have A3 := Q4 A30
    clear A30
    replace H := Qi H
    obtain ⟨⟨t106, t107, t108⟩, A40, H⟩ := H
    try dsimp only at H
    have A4 := Q4 A40
    clear A40
    by_cases c5 : t106.toList = a0.toList
    ·rw [if_pos c5] at H
     have c5b0 : (t106.toList == a0.toList) = true := Qm c5
     have c5b1 : (t106.toList != a0.toList) = false := Qh c5
     clear c5
     obtain rfl := Qn H
     go_wp2_with (first|((with_reducible refine gate_callee (f := 25) rfl ?_); refine gL (some 13) Tryz.func25 #[.agg #[.int .i64 x7_1, .int .i64 0, .int .i64 0, .int .i64 0, .int .i32 0]] ?_; (with_reducible refine (inst_TextE.calls x7_1 0 0 0 0 t105 _ (env_mono HTAB.out (by repeat (first|(with_reducible first|exact HB.out|apply Q8|apply Q5|apply Q9)|exact HB.out))) A3.out).mono ?_); rintro e w6 ⟨rfl, hb⟩; refine ⟨_, rfl, ?_⟩; have n0_ := Q4 (Qg (by repeat (first|(with_reducible first|exact HB.out|apply Q8|apply Q5|apply Q9)|exact HB.out)) hb); clear HB; have HB := n0_; clear n0_;(try clear hb);(try clear hb2);(try clear hk);(try clear hi))|((with_reducible refine gate_callee (f := 14) rfl ?_); refine gL (some 14) Tryz.func14 #[.string t105, .string (⟨#[32]⟩ : ByteArray)] ?_; (with_reducible refine (strings_Cut.calls t105 (⟨#[32]⟩ : ByteArray) t106 t107 t108 _ (env_mono HTAB.out (by repeat (first|(with_reducible first|exact HB.out|apply Q8|apply Q5|apply Q9)|exact HB.out))) A4.out).mono ?_); rintro e w7 ⟨rfl, hb⟩; refine ⟨_, rfl, ?_⟩; have n0_ := Q4 (Qg (by repeat (first|(with_reducible first|exact HB.out|apply Q8|apply Q5|apply Q9)|exact HB.out)) hb); clear HB; have HB := n0_; clear n0_;(try clear hb);(try clear hb2);(try clear hk);(try clear hi)))
     go_ret
     exact ⟨by first|rfl|(simp [errW_none, errW_some] <;> rfl)|(simp [*, errW_none, errW_some] <;> rfl), by repeat (first|(with_reducible first|exact HB.out|apply Q8|apply Q5|apply Q9)|exact HB.out)⟩
    ·rw [if_neg c5] at H
     have c5b0 : (t106.toList == a0.toList) = false := Qk c5
     have c5b1 : (t106.toList != a0.toList) = true := Ql c5
     have H' := Q4 H
     clear H
     go_wp2_with (first|((with_reducible refine gate_callee (f := 25) rfl ?_); refine gL (some 13) Tryz.func25 #[.agg #[.int .i64 x7_1, .int .i64 0, .int .i64 0, .int .i64 0, .int .i32 0]] ?_; (with_reducible refine (inst_TextE.calls x7_1 0 0 0 0 t105 _ (env_mono HTAB.out (by repeat (first|(with_reducible first|exact HB.out|apply Q8|apply Q5|apply Q9)|exact HB.out))) A3.out).mono ?_); rintro e w8 ⟨rfl, hb⟩; refine ⟨_, rfl, ?_⟩; have n0_ := Q4 (Qg (by repeat (first|(with_reducible first|exact HB.out|apply Q8|apply Q5|apply Q9)|exact HB.out)) hb); clear HB; have HB := n0_; clear n0_;(try clear hb);(try clear hb2);(try clear hk);(try clear hi))|((with_reducible refine gate_callee (f := 14) rfl ?_); refine gL (some 14) Tryz.func14 #[.string t105, .string (⟨#[32]⟩ : ByteArray)] ?_; (with_reducible refine (strings_Cut.calls t105 (⟨#[32]⟩ : ByteArray) t106 t107 t108 _ (env_mono HTAB.out (by repeat (first|(with_reducible first|exact HB.out|apply Q8|apply Q5|apply Q9)|exact HB.out))) A4.out).mono ?_); rintro e w9 ⟨rfl, hb⟩; refine ⟨_, rfl, ?_⟩; have n0_ := Q4 (Qg (by repeat (first|(with_reducible first|exact HB.out|apply Q8|apply Q5|apply Q9)|exact HB.out)) hb); clear HB; have HB := n0_; clear n0_;(try clear hb);(try clear hb2);(try clear hk);(try clear hi)))
     go_roundg k1
     case measure => have := HK1.out; omega
     case rel => exact ⟨(wrap64 (x7_1 + 1)), (by first|rfl|(simp; done)|(simp [*]; done)), H', ⟨by have := HK1.out; omega⟩, ⟨by repeat (first|(with_reducible first|exact HB.out|apply Q8|apply Q5|apply Q9)|exact HB.out)⟩⟩
   ·rw [if_neg c2] at H
    have c2b0 : decide (x7_1 < 26) = false := decide_eq_false c2
    clear c2
    obtain rfl := Qn H
    go_wp2
    go_ret
    exact ⟨by first|rfl|(simp [errW_none, errW_some] <;> rfl)|(simp [*, errW_none, errW_some] <;> rfl), by repeat (first|(with_reducible first|exact HB.out|apply Q8|apply Q5|apply Q9)|exact HB.out)⟩

/-- A state of type 75 at block g of W; what its slices lead to came in by w0. -/
def IsS75 (w0 W : World) (g : Nat) (f0 : ByteArray) (f1 : Int) (f2 : Int) (f3 : Int) (f4 : Int) (f5 : Int) (f6 : ByteArray) (f7 : Bool) : Prop := W.heap[g]? = some (.cells #[.string f0, .int .i64 f1, .int .i64 f2, .int .i64 f3, .int .i64 f4, .int .i32 f5, .string f6, .bool f7] 75 (0, 0)) ∧ w0.heap.size ≤ g
theorem IsS75.grown {w0 W : World} {g : Nat} {f0 : ByteArray} {f1 : Int} {f2 : Int} {f3 : Int} {f4 : Int} {f5 : Int} {f6 : ByteArray} {f7 : Bool} {W1 : World} {row : Option Nat} (h : IsS75 w0 W g f0 f1 f2 f3 f4 f5 f6 f7) (hw : W.grownBy W1 row) (hne : some g ≠ row) : IsS75 w0 W1 g f0 f1 f2 f3 f4 f5 f6 f7 := by
 obtain ⟨hb, hg⟩ := h
 exact ⟨blk_grown hb hw hne, hg⟩
theorem IsS75.below {w0 W : World} {g : Nat} {f0 : ByteArray} {f1 : Int} {f2 : Int} {f3 : Int} {f4 : Int} {f5 : Int} {f6 : ByteArray} {f7 : Bool} {W1 : World} (h : IsS75 w0 W g f0 f1 f2 f3 f4 f5 f6 f7) (hw : Below W.heap.size W W1) : IsS75 w0 W1 g f0 f1 f2 f3 f4 f5 f6 f7 := h.grown (grown_of_below hw none) (by simp)
theorem IsS75.alloc {w0 W : World} {g : Nat} {f0 : ByteArray} {f1 : Int} {f2 : Int} {f3 : Int} {f4 : Int} {f5 : Int} {f6 : ByteArray} {f7 : Bool} (h : IsS75 w0 W g f0 f1 f2 f3 f4 f5 f6 f7) (o : Obj) : IsS75 w0 (W.alloc o) g f0 f1 f2 f3 f4 f5 f6 f7 := h.below (Q8 (Below.refl _ _) o)
theorem IsS75.apart {w0 W : World} {g : Nat} {f0 : ByteArray} {f1 : Int} {f2 : Int} {f3 : Int} {f4 : Int} {f5 : Int} {f6 : ByteArray} {f7 : Bool} {α : Type} {d : Kd α} {e : Nat} {base : Nat} {ok : Nat → Prop} {v : Value} {xs : List α} (h : IsS75 w0 W g f0 f1 f2 f3 f4 f5 f6 f7) (ho : d.R e W base ok v xs) (ht : ∀ q, q ∈ e :: d.E → q ≠ 75) : d.R e W base (fun k => ok k ∧ k ≠ g) v xs := by
 obtain ⟨hb, hg⟩ := h
 exact Kd.R_types ho hb ht
theorem IsS75.ge {w0 W : World} {g : Nat} {f0 : ByteArray} {f1 : Int} {f2 : Int} {f3 : Int} {f4 : Int} {f5 : Int} {f6 : ByteArray} {f7 : Bool} (h : IsS75 w0 W g f0 f1 f2 f3 f4 f5 f6 f7) : w0.heap.size ≤ g := by
 obtain ⟨hb, hg⟩ := h
 exact hg
theorem cellS75_0 {W : World} {g : Nat} {f0 : ByteArray} {f1 : Int} {f2 : Int} {f3 : Int} {f4 : Int} {f5 : Int} {f6 : ByteArray} {f7 : Bool} (h : W.heap[g]? = some (.cells #[.string f0, .int .i64 f1, .int .i64 f2, .int .i64 f3, .int .i64 f4, .int .i32 f5, .string f6, .bool f7] 75 (0, 0))) : W.cell? ⟨g, 0, none⟩ = some (.string f0) := (Qe h 0).trans rfl
theorem cellS75_1 {W : World} {g : Nat} {f0 : ByteArray} {f1 : Int} {f2 : Int} {f3 : Int} {f4 : Int} {f5 : Int} {f6 : ByteArray} {f7 : Bool} (h : W.heap[g]? = some (.cells #[.string f0, .int .i64 f1, .int .i64 f2, .int .i64 f3, .int .i64 f4, .int .i32 f5, .string f6, .bool f7] 75 (0, 0))) : W.cell? ⟨g, 1, none⟩ = some (.int .i64 f1) := (Qe h 1).trans rfl
theorem cellS75_2 {W : World} {g : Nat} {f0 : ByteArray} {f1 : Int} {f2 : Int} {f3 : Int} {f4 : Int} {f5 : Int} {f6 : ByteArray} {f7 : Bool} (h : W.heap[g]? = some (.cells #[.string f0, .int .i64 f1, .int .i64 f2, .int .i64 f3, .int .i64 f4, .int .i32 f5, .string f6, .bool f7] 75 (0, 0))) : W.cell? ⟨g, 2, none⟩ = some (.int .i64 f2) := (Qe h 2).trans rfl
theorem IsS75.set_2 {w0 W : World} {g : Nat} {f0 : ByteArray} {f1 : Int} {f2 : Int} {f3 : Int} {f4 : Int} {f5 : Int} {f6 : ByteArray} {f7 : Bool} (h : IsS75 w0 W g f0 f1 f2 f3 f4 f5 f6 f7) (x : Int) : IsS75 w0 (W.setCell ⟨g, 2, none⟩ (.int .i64 x)) g f0 f1 x f3 f4 f5 f6 f7 := by
 obtain ⟨hb, hg⟩ := h
 exact ⟨by simpa using blk_set hb 2 (.int .i64 x), hg⟩
theorem cellS75_3 {W : World} {g : Nat} {f0 : ByteArray} {f1 : Int} {f2 : Int} {f3 : Int} {f4 : Int} {f5 : Int} {f6 : ByteArray} {f7 : Bool} (h : W.heap[g]? = some (.cells #[.string f0, .int .i64 f1, .int .i64 f2, .int .i64 f3, .int .i64 f4, .int .i32 f5, .string f6, .bool f7] 75 (0, 0))) : W.cell? ⟨g, 3, none⟩ = some (.int .i64 f3) := (Qe h 3).trans rfl
theorem IsS75.set_3 {w0 W : World} {g : Nat} {f0 : ByteArray} {f1 : Int} {f2 : Int} {f3 : Int} {f4 : Int} {f5 : Int} {f6 : ByteArray} {f7 : Bool} (h : IsS75 w0 W g f0 f1 f2 f3 f4 f5 f6 f7) (x : Int) : IsS75 w0 (W.setCell ⟨g, 3, none⟩ (.int .i64 x)) g f0 f1 f2 x f4 f5 f6 f7 := by
 obtain ⟨hb, hg⟩ := h
 exact ⟨by simpa using blk_set hb 3 (.int .i64 x), hg⟩
theorem cellS75_4 {W : World} {g : Nat} {f0 : ByteArray} {f1 : Int} {f2 : Int} {f3 : Int} {f4 : Int} {f5 : Int} {f6 : ByteArray} {f7 : Bool} (h : W.heap[g]? = some (.cells #[.string f0, .int .i64 f1, .int .i64 f2, .int .i64 f3, .int .i64 f4, .int .i32 f5, .string f6, .bool f7] 75 (0, 0))) : W.cell? ⟨g, 4, none⟩ = some (.int .i64 f4) := (Qe h 4).trans rfl
theorem IsS75.set_4 {w0 W : World} {g : Nat} {f0 : ByteArray} {f1 : Int} {f2 : Int} {f3 : Int} {f4 : Int} {f5 : Int} {f6 : ByteArray} {f7 : Bool} (h : IsS75 w0 W g f0 f1 f2 f3 f4 f5 f6 f7) (x : Int) : IsS75 w0 (W.setCell ⟨g, 4, none⟩ (.int .i64 x)) g f0 f1 f2 f3 x f5 f6 f7 := by
 obtain ⟨hb, hg⟩ := h
 exact ⟨by simpa using blk_set hb 4 (.int .i64 x), hg⟩
theorem cellS75_5 {W : World} {g : Nat} {f0 : ByteArray} {f1 : Int} {f2 : Int} {f3 : Int} {f4 : Int} {f5 : Int} {f6 : ByteArray} {f7 : Bool} (h : W.heap[g]? = some (.cells #[.string f0, .int .i64 f1, .int .i64 f2, .int .i64 f3, .int .i64 f4, .int .i32 f5, .string f6, .bool f7] 75 (0, 0))) : W.cell? ⟨g, 5, none⟩ = some (.int .i32 f5) := (Qe h 5).trans rfl
theorem IsS75.set_5 {w0 W : World} {g : Nat} {f0 : ByteArray} {f1 : Int} {f2 : Int} {f3 : Int} {f4 : Int} {f5 : Int} {f6 : ByteArray} {f7 : Bool} (h : IsS75 w0 W g f0 f1 f2 f3 f4 f5 f6 f7) (x : Int) : IsS75 w0 (W.setCell ⟨g, 5, none⟩ (.int .i32 x)) g f0 f1 f2 f3 f4 x f6 f7 := by
 obtain ⟨hb, hg⟩ := h
 exact ⟨by simpa using blk_set hb 5 (.int .i32 x), hg⟩
theorem cellS75_6 {W : World} {g : Nat} {f0 : ByteArray} {f1 : Int} {f2 : Int} {f3 : Int} {f4 : Int} {f5 : Int} {f6 : ByteArray} {f7 : Bool} (h : W.heap[g]? = some (.cells #[.string f0, .int .i64 f1, .int .i64 f2, .int .i64 f3, .int .i64 f4, .int .i32 f5, .string f6, .bool f7] 75 (0, 0))) : W.cell? ⟨g, 6, none⟩ = some (.string f6) := (Qe h 6).trans rfl
theorem IsS75.set_6 {w0 W : World} {g : Nat} {f0 : ByteArray} {f1 : Int} {f2 : Int} {f3 : Int} {f4 : Int} {f5 : Int} {f6 : ByteArray} {f7 : Bool} (h : IsS75 w0 W g f0 f1 f2 f3 f4 f5 f6 f7) (x : ByteArray) : IsS75 w0 (W.setCell ⟨g, 6, none⟩ (.string x)) g f0 f1 f2 f3 f4 f5 x f7 := by
 obtain ⟨hb, hg⟩ := h
 exact ⟨by simpa using blk_set hb 6 (.string x), hg⟩
theorem cellS75_7 {W : World} {g : Nat} {f0 : ByteArray} {f1 : Int} {f2 : Int} {f3 : Int} {f4 : Int} {f5 : Int} {f6 : ByteArray} {f7 : Bool} (h : W.heap[g]? = some (.cells #[.string f0, .int .i64 f1, .int .i64 f2, .int .i64 f3, .int .i64 f4, .int .i32 f5, .string f6, .bool f7] 75 (0, 0))) : W.cell? ⟨g, 7, none⟩ = some (.bool f7) := (Qe h 7).trans rfl
theorem IsS75.set_7 {w0 W : World} {g : Nat} {f0 : ByteArray} {f1 : Int} {f2 : Int} {f3 : Int} {f4 : Int} {f5 : Int} {f6 : ByteArray} {f7 : Bool} (h : IsS75 w0 W g f0 f1 f2 f3 f4 f5 f6 f7) (x : Bool) : IsS75 w0 (W.setCell ⟨g, 7, none⟩ (.bool x)) g f0 f1 f2 f3 f4 f5 f6 x := by
 obtain ⟨hb, hg⟩ := h
 exact ⟨by simpa using blk_set hb 7 (.bool x), hg⟩

/-! ### asm_reader_register: function 58 -/
def asm_reader_register.f (s0_0 : ByteArray) (s0_1 : Int) (s0_2 : Int) (s0_3 : Int) (s0_4 : Int) (s0_5 : Int) (s0_6 : ByteArray) (s0_7 : Bool) (a1 : ByteArray) : Option (Int × ByteArray × Int × Int × Int × Int × Int × ByteArray × Bool) := (strings_CutPrefix.f a1 (⟨#[114]⟩ : ByteArray)).bind fun bt110 => ((asm_number.f bt110.1).bind fun bt112 => (if s0_7 = true then (if bt110.2 = true then (some (wrap64 (bt112.1), s0_0, s0_1, s0_2, s0_3, s0_4, s0_5, s0_6, bt112.2)) else (some (wrap64 (bt112.1), s0_0, s0_1, s0_2, s0_3, s0_4, s0_5, s0_6, false))) else (some (wrap64 (bt112.1), s0_0, s0_1, s0_2, s0_3, s0_4, s0_5, s0_6, false))))
set_option maxHeartbeats 8000000 in
set_option maxRecDepth 100000 in
theorem asm_reader_register.calls (g : Nat) (s0_0 : ByteArray) (s0_1 : Int) (s0_2 : Int) (s0_3 : Int) (s0_4 : Int) (s0_5 : Int) (s0_6 : ByteArray) (s0_7 : Bool) (a1 : ByteArray) (r1 : Int) (r2 : ByteArray) (r3 : Int) (r4 : Int) (r5 : Int) (r6 : Int) (r7 : Int) (r8 : ByteArray) (r9 : Bool) (w0 w : World) (HTAB0 : Env w0) (hI : IsS75 w0 w g s0_0 s0_1 s0_2 s0_3 s0_4 s0_5 s0_6 s0_7) (hB : Below w0.heap.size w0 w) (h : asm_reader_register.f s0_0 s0_1 s0_2 s0_3 s0_4 s0_5 s0_6 s0_7 a1 = some (r1, r2, r3, r4, r5, r6, r7, r8, r9)) :
  Calls Tryz.prog 58 #[.pointer (some ⟨g, 0, none⟩), .string a1] w fun e w' => e = .returned (.int .i64 r1) ∧ IsS75 w0 w' g r2 r3 r4 r5 r6 r7 r8 r9 ∧ Below w0.heap.size w0 w' ∧ KeepBut w w' g none := by
 have HTAB := Q4 HTAB0
 clear HTAB0
 have HI0 := Q4 hI
 have HK := Q4 (KeepBut.refl w g none)
 have HL := Q4 hB.size
 clear hI
 have HW0 := Q4 hB.size
 have HB := Q4 hB
 clear hB
 have H := h
 unfold asm_reader_register.f at H
 clear h
 replace H := Qi H
 obtain ⟨⟨t110, t111⟩, A30, H⟩ := H
 try dsimp only at H
 have A3 := Q4 A30
 clear A30
 replace H := Qi H
 obtain ⟨⟨t112, t113⟩, A40, H⟩ := H
 try dsimp only at H
 have A4 := Q4 A40
 clear A40
 by_cases c5 : s0_7 = true
 ·subst c5
  rw [if_pos rfl] at H
  by_cases c6 : t111 = true
  ·subst c6
   rw [if_pos rfl] at H
   simp only [Option.some.injEq, Prod.mk.injEq] at H
   obtain ⟨rfl, rfl, rfl, rfl, rfl, rfl, rfl, rfl, rfl⟩ := H
   go_enter Tryz.func58, Tryz.ntmps58
   go_wp2_with (first|((with_reducible refine gate_callee (f := 78) rfl ?_); refine gL (some 11) Tryz.func78 #[.string a1, .string (⟨#[114]⟩ : ByteArray)] ?_; (with_reducible refine (strings_CutPrefix.calls a1 (⟨#[114]⟩ : ByteArray) t110 true _ A3.out).mono ?_); rintro e w7 ⟨rfl, hb⟩; refine ⟨_, rfl, ?_⟩; have n0_ := Q4 (IsS75.below (by repeat (first|(with_reducible first|exact HI0.out|apply IsS75.alloc|apply IsS75.drewN|apply IsS75.drew|apply IsS75.set_0|apply IsS75.set_1|apply IsS75.set_2|apply IsS75.set_3|apply IsS75.set_4|apply IsS75.set_5|apply IsS75.set_6|apply IsS75.set_7)|exact HI0.out)) hb); have n1_ := Q4 (KeepBut.trans (by repeat (first|(with_reducible first|exact HK.out|apply KeepBut.set_|apply keep_drewN|apply keep_drew|apply keep_alloc)|exact HK.out)) (KeepBut.of_below hb g none) (.inl rfl)); have n2_ := Q4 (Qg (by repeat (first|(with_reducible first|exact HB.out|apply Q8|apply Q5|apply Q9|refine Q6 ?_ (IsS75.ge HI0.out))|exact HB.out)) hb); clear HI0; clear HK; clear HB; have HI0 := n0_; have HK := n1_; have HB := n2_; clear n0_ n1_ n2_;(try clear hb);(try clear hb2);(try clear hk);(try clear hi))|((with_reducible refine gate_callee (f := 79) rfl ?_); refine gL (some 16) Tryz.func79 #[.string t110] ?_; (with_reducible refine (asm_number.calls t110 t112 t113 _ (env_mono HTAB.out (by repeat (first|(with_reducible first|exact HB.out|apply Q8|apply Q5|apply Q9|refine Q6 ?_ (IsS75.ge HI0.out))|exact HB.out))) A4.out).mono ?_); rintro e w8 ⟨rfl, hb⟩; refine ⟨_, rfl, ?_⟩; have n0_ := Q4 (IsS75.below (by repeat (first|(with_reducible first|exact HI0.out|apply IsS75.alloc|apply IsS75.drewN|apply IsS75.drew|apply IsS75.set_0|apply IsS75.set_1|apply IsS75.set_2|apply IsS75.set_3|apply IsS75.set_4|apply IsS75.set_5|apply IsS75.set_6|apply IsS75.set_7)|exact HI0.out)) hb); have n1_ := Q4 (KeepBut.trans (by repeat (first|(with_reducible first|exact HK.out|apply KeepBut.set_|apply keep_drewN|apply keep_drew|apply keep_alloc)|exact HK.out)) (KeepBut.of_below hb g none) (.inl rfl)); have n2_ := Q4 (Qg (by repeat (first|(with_reducible first|exact HB.out|apply Q8|apply Q5|apply Q9|refine Q6 ?_ (IsS75.ge HI0.out))|exact HB.out)) hb); clear HI0; clear HK; clear HB; have HI0 := n0_; have HK := n1_; have HB := n2_; clear n0_ n1_ n2_;(try clear hb);(try clear hb2);(try clear hk);(try clear hi); obtain ⟨HGz9, hgz9⟩ := HI0.out; have hcz9_0 := cellS75_0 HGz9; have hcz9_1 := cellS75_1 HGz9; have hcz9_2 := cellS75_2 HGz9; have hcz9_3 := cellS75_3 HGz9; have hcz9_4 := cellS75_4 HGz9; have hcz9_5 := cellS75_5 HGz9; have hcz9_6 := cellS75_6 HGz9; have hcz9_7 := cellS75_7 HGz9; have hfz9_0 := Qd HGz9 0; have hfz9_1 := Qd HGz9 1; have hfz9_2 := Qd HGz9 2; have hfz9_3 := Qd HGz9 3; have hfz9_4 := Qd HGz9 4; have hfz9_5 := Qd HGz9 5; have hfz9_6 := Qd HGz9 6; have hfz9_7 := Qd HGz9 7; clear HGz9 hgz9))
   go_ret
   exact ⟨by first|rfl|(simp [errW_none, errW_some] <;> rfl)|(simp [*, errW_none, errW_some] <;> rfl), by repeat (first|(with_reducible first|exact HI0.out|apply IsS75.alloc|apply IsS75.drewN|apply IsS75.drew|apply IsS75.set_0|apply IsS75.set_1|apply IsS75.set_2|apply IsS75.set_3|apply IsS75.set_4|apply IsS75.set_5|apply IsS75.set_6|apply IsS75.set_7)|exact HI0.out), by repeat (first|(with_reducible first|exact HB.out|apply Q8|apply Q5|apply Q9|refine Q6 ?_ (IsS75.ge HI0.out))|exact HB.out), by repeat (first|(with_reducible first|exact HK.out|apply KeepBut.set_|apply keep_drewN|apply keep_drew|apply keep_alloc)|exact HK.out)⟩
  ·replace c6 := Bool.eq_false_iff.mpr c6
   subst c6
   rw [if_neg (show ¬ (false = true) by decide)] at H
   simp only [Option.some.injEq, Prod.mk.injEq] at H
   obtain ⟨rfl, rfl, rfl, rfl, rfl, rfl, rfl, rfl, rfl⟩ := H
   go_enter Tryz.func58, Tryz.ntmps58
   go_wp2_with (first|((with_reducible refine gate_callee (f := 78) rfl ?_); refine gL (some 11) Tryz.func78 #[.string a1, .string (⟨#[114]⟩ : ByteArray)] ?_; (with_reducible refine (strings_CutPrefix.calls a1 (⟨#[114]⟩ : ByteArray) t110 false _ A3.out).mono ?_); rintro e w10 ⟨rfl, hb⟩; refine ⟨_, rfl, ?_⟩; have n0_ := Q4 (IsS75.below (by repeat (first|(with_reducible first|exact HI0.out|apply IsS75.alloc|apply IsS75.drewN|apply IsS75.drew|apply IsS75.set_0|apply IsS75.set_1|apply IsS75.set_2|apply IsS75.set_3|apply IsS75.set_4|apply IsS75.set_5|apply IsS75.set_6|apply IsS75.set_7)|exact HI0.out)) hb); have n1_ := Q4 (KeepBut.trans (by repeat (first|(with_reducible first|exact HK.out|apply KeepBut.set_|apply keep_drewN|apply keep_drew|apply keep_alloc)|exact HK.out)) (KeepBut.of_below hb g none) (.inl rfl)); have n2_ := Q4 (Qg (by repeat (first|(with_reducible first|exact HB.out|apply Q8|apply Q5|apply Q9|refine Q6 ?_ (IsS75.ge HI0.out))|exact HB.out)) hb); clear HI0; clear HK; clear HB; have HI0 := n0_; have HK := n1_; have HB := n2_; clear n0_ n1_ n2_;(try clear hb);(try clear hb2);(try clear hk);(try clear hi))|((with_reducible refine gate_callee (f := 79) rfl ?_); refine gL (some 16) Tryz.func79 #[.string t110] ?_; (with_reducible refine (asm_number.calls t110 t112 t113 _ (env_mono HTAB.out (by repeat (first|(with_reducible first|exact HB.out|apply Q8|apply Q5|apply Q9|refine Q6 ?_ (IsS75.ge HI0.out))|exact HB.out))) A4.out).mono ?_); rintro e w11 ⟨rfl, hb⟩; refine ⟨_, rfl, ?_⟩; have n0_ := Q4 (IsS75.below (by repeat (first|(with_reducible first|exact HI0.out|apply IsS75.alloc|apply IsS75.drewN|apply IsS75.drew|apply IsS75.set_0|apply IsS75.set_1|apply IsS75.set_2|apply IsS75.set_3|apply IsS75.set_4|apply IsS75.set_5|apply IsS75.set_6|apply IsS75.set_7)|exact HI0.out)) hb); have n1_ := Q4 (KeepBut.trans (by repeat (first|(with_reducible first|exact HK.out|apply KeepBut.set_|apply keep_drewN|apply keep_drew|apply keep_alloc)|exact HK.out)) (KeepBut.of_below hb g none) (.inl rfl)); have n2_ := Q4 (Qg (by repeat (first|(with_reducible first|exact HB.out|apply Q8|apply Q5|apply Q9|refine Q6 ?_ (IsS75.ge HI0.out))|exact HB.out)) hb); clear HI0; clear HK; clear HB; have HI0 := n0_; have HK := n1_; have HB := n2_; clear n0_ n1_ n2_;(try clear hb);(try clear hb2);(try clear hk);(try clear hi); obtain ⟨HGz12, hgz12⟩ := HI0.out; have hcz12_0 := cellS75_0 HGz12; have hcz12_1 := cellS75_1 HGz12; have hcz12_2 := cellS75_2 HGz12; have hcz12_3 := cellS75_3 HGz12; have hcz12_4 := cellS75_4 HGz12; have hcz12_5 := cellS75_5 HGz12; have hcz12_6 := cellS75_6 HGz12; have hcz12_7 := cellS75_7 HGz12; have hfz12_0 := Qd HGz12 0; have hfz12_1 := Qd HGz12 1; have hfz12_2 := Qd HGz12 2; have hfz12_3 := Qd HGz12 3; have hfz12_4 := Qd HGz12 4; have hfz12_5 := Qd HGz12 5; have hfz12_6 := Qd HGz12 6; have hfz12_7 := Qd HGz12 7; clear HGz12 hgz12))
   go_ret
   exact ⟨by first|rfl|(simp [errW_none, errW_some] <;> rfl)|(simp [*, errW_none, errW_some] <;> rfl), by repeat (first|(with_reducible first|exact HI0.out|apply IsS75.alloc|apply IsS75.drewN|apply IsS75.drew|apply IsS75.set_0|apply IsS75.set_1|apply IsS75.set_2|apply IsS75.set_3|apply IsS75.set_4|apply IsS75.set_5|apply IsS75.set_6|apply IsS75.set_7)|exact HI0.out), by repeat (first|(with_reducible first|exact HB.out|apply Q8|apply Q5|apply Q9|refine Q6 ?_ (IsS75.ge HI0.out))|exact HB.out), by repeat (first|(with_reducible first|exact HK.out|apply KeepBut.set_|apply keep_drewN|apply keep_drew|apply keep_alloc)|exact HK.out)⟩
 ·replace c5 := Bool.eq_false_iff.mpr c5
  subst c5
  rw [if_neg (show ¬ (false = true) by decide)] at H
  simp only [Option.some.injEq, Prod.mk.injEq] at H
  obtain ⟨rfl, rfl, rfl, rfl, rfl, rfl, rfl, rfl, rfl⟩ := H
  go_enter Tryz.func58, Tryz.ntmps58
  go_wp2_with (first|((with_reducible refine gate_callee (f := 78) rfl ?_); refine gL (some 11) Tryz.func78 #[.string a1, .string (⟨#[114]⟩ : ByteArray)] ?_; (with_reducible refine (strings_CutPrefix.calls a1 (⟨#[114]⟩ : ByteArray) t110 t111 _ A3.out).mono ?_); rintro e w13 ⟨rfl, hb⟩; refine ⟨_, rfl, ?_⟩; have n0_ := Q4 (IsS75.below (by repeat (first|(with_reducible first|exact HI0.out|apply IsS75.alloc|apply IsS75.drewN|apply IsS75.drew|apply IsS75.set_0|apply IsS75.set_1|apply IsS75.set_2|apply IsS75.set_3|apply IsS75.set_4|apply IsS75.set_5|apply IsS75.set_6|apply IsS75.set_7)|exact HI0.out)) hb); have n1_ := Q4 (KeepBut.trans (by repeat (first|(with_reducible first|exact HK.out|apply KeepBut.set_|apply keep_drewN|apply keep_drew|apply keep_alloc)|exact HK.out)) (KeepBut.of_below hb g none) (.inl rfl)); have n2_ := Q4 (Qg (by repeat (first|(with_reducible first|exact HB.out|apply Q8|apply Q5|apply Q9|refine Q6 ?_ (IsS75.ge HI0.out))|exact HB.out)) hb); clear HI0; clear HK; clear HB; have HI0 := n0_; have HK := n1_; have HB := n2_; clear n0_ n1_ n2_;(try clear hb);(try clear hb2);(try clear hk);(try clear hi))|((with_reducible refine gate_callee (f := 79) rfl ?_); refine gL (some 16) Tryz.func79 #[.string t110] ?_; (with_reducible refine (asm_number.calls t110 t112 t113 _ (env_mono HTAB.out (by repeat (first|(with_reducible first|exact HB.out|apply Q8|apply Q5|apply Q9|refine Q6 ?_ (IsS75.ge HI0.out))|exact HB.out))) A4.out).mono ?_); rintro e w14 ⟨rfl, hb⟩; refine ⟨_, rfl, ?_⟩; have n0_ := Q4 (IsS75.below (by repeat (first|(with_reducible first|exact HI0.out|apply IsS75.alloc|apply IsS75.drewN|apply IsS75.drew|apply IsS75.set_0|apply IsS75.set_1|apply IsS75.set_2|apply IsS75.set_3|apply IsS75.set_4|apply IsS75.set_5|apply IsS75.set_6|apply IsS75.set_7)|exact HI0.out)) hb); have n1_ := Q4 (KeepBut.trans (by repeat (first|(with_reducible first|exact HK.out|apply KeepBut.set_|apply keep_drewN|apply keep_drew|apply keep_alloc)|exact HK.out)) (KeepBut.of_below hb g none) (.inl rfl)); have n2_ := Q4 (Qg (by repeat (first|(with_reducible first|exact HB.out|apply Q8|apply Q5|apply Q9|refine Q6 ?_ (IsS75.ge HI0.out))|exact HB.out)) hb); clear HI0; clear HK; clear HB; have HI0 := n0_; have HK := n1_; have HB := n2_; clear n0_ n1_ n2_;(try clear hb);(try clear hb2);(try clear hk);(try clear hi); obtain ⟨HGz15, hgz15⟩ := HI0.out; have hcz15_0 := cellS75_0 HGz15; have hcz15_1 := cellS75_1 HGz15; have hcz15_2 := cellS75_2 HGz15; have hcz15_3 := cellS75_3 HGz15; have hcz15_4 := cellS75_4 HGz15; have hcz15_5 := cellS75_5 HGz15; have hcz15_6 := cellS75_6 HGz15; have hcz15_7 := cellS75_7 HGz15; have hfz15_0 := Qd HGz15 0; have hfz15_1 := Qd HGz15 1; have hfz15_2 := Qd HGz15 2; have hfz15_3 := Qd HGz15 3; have hfz15_4 := Qd HGz15 4; have hfz15_5 := Qd HGz15 5; have hfz15_6 := Qd HGz15 6; have hfz15_7 := Qd HGz15 7; clear HGz15 hgz15))
  go_ret
  exact ⟨by first|rfl|(simp [errW_none, errW_some] <;> rfl)|(simp [*, errW_none, errW_some] <;> rfl), by repeat (first|(with_reducible first|exact HI0.out|apply IsS75.alloc|apply IsS75.drewN|apply IsS75.drew|apply IsS75.set_0|apply IsS75.set_1|apply IsS75.set_2|apply IsS75.set_3|apply IsS75.set_4|apply IsS75.set_5|apply IsS75.set_6|apply IsS75.set_7)|exact HI0.out), by repeat (first|(with_reducible first|exact HB.out|apply Q8|apply Q5|apply Q9|refine Q6 ?_ (IsS75.ge HI0.out))|exact HB.out), by repeat (first|(with_reducible first|exact HK.out|apply KeepBut.set_|apply keep_drewN|apply keep_drew|apply keep_alloc)|exact HK.out)⟩

/-! ### asm_reader_value: function 59 -/
def asm_reader_value.f (s0_0 : ByteArray) (s0_1 : Int) (s0_2 : Int) (s0_3 : Int) (s0_4 : Int) (s0_5 : Int) (s0_6 : ByteArray) (s0_7 : Bool) (a1 : ByteArray) : Option (ByteArray × Int × Int × Int × Int × Int × ByteArray × Bool) := (strings_CutPrefix.f a1 (⟨#[64]⟩ : ByteArray)).bind fun bt114 => (if bt114.2 = true then ((strings_Cut.f bt114.1 (⟨#[43]⟩ : ByteArray)).bind fun bt116 => (if bt116.2.2 = true then (if s0_7 = true then ((asm_number.f bt116.2.1).bind fun bt119 => (if bt116.1.toList = ([] : List UInt8) then (some (s0_0, s0_1, s0_2, s0_3, s0_4, bt119.1, bt116.1, false)) else (some (s0_0, s0_1, s0_2, s0_3, s0_4, bt119.1, bt116.1, bt119.2)))) else ((asm_number.f bt116.2.1).bind fun bt121 => (some (s0_0, s0_1, s0_2, s0_3, s0_4, bt121.1, bt116.1, false)))) else (if s0_7 = true then ((asm_number.f (⟨#[48]⟩ : ByteArray)).bind fun bt123 => (if bt116.1.toList = ([] : List UInt8) then (some (s0_0, s0_1, s0_2, s0_3, s0_4, bt123.1, bt116.1, false)) else (some (s0_0, s0_1, s0_2, s0_3, s0_4, bt123.1, bt116.1, bt123.2)))) else ((asm_number.f (⟨#[48]⟩ : ByteArray)).bind fun bt125 => (some (s0_0, s0_1, s0_2, s0_3, s0_4, bt125.1, bt116.1, false)))))) else ((asm_number.f a1).bind fun bt127 => (if s0_7 = true then (some (s0_0, s0_1, s0_2, s0_3, s0_4, bt127.1, s0_6, bt127.2)) else (some (s0_0, s0_1, s0_2, s0_3, s0_4, bt127.1, s0_6, false)))))
set_option maxHeartbeats 8000000 in
set_option maxRecDepth 100000 in
theorem asm_reader_value.calls (g : Nat) (s0_0 : ByteArray) (s0_1 : Int) (s0_2 : Int) (s0_3 : Int) (s0_4 : Int) (s0_5 : Int) (s0_6 : ByteArray) (s0_7 : Bool) (a1 : ByteArray) (r1 : ByteArray) (r2 : Int) (r3 : Int) (r4 : Int) (r5 : Int) (r6 : Int) (r7 : ByteArray) (r8 : Bool) (w0 w : World) (HTAB0 : Env w0) (hI : IsS75 w0 w g s0_0 s0_1 s0_2 s0_3 s0_4 s0_5 s0_6 s0_7) (hB : Below w0.heap.size w0 w) (h : asm_reader_value.f s0_0 s0_1 s0_2 s0_3 s0_4 s0_5 s0_6 s0_7 a1 = some (r1, r2, r3, r4, r5, r6, r7, r8)) :
  Calls Tryz.prog 59 #[.pointer (some ⟨g, 0, none⟩), .string a1] w fun e w' => e = .returned (.tuple #[]) ∧ IsS75 w0 w' g r1 r2 r3 r4 r5 r6 r7 r8 ∧ Below w0.heap.size w0 w' ∧ KeepBut w w' g none := by
 have HTAB := Q4 HTAB0
 clear HTAB0
 have HI0 := Q4 hI
 have HK := Q4 (KeepBut.refl w g none)
 have HL := Q4 hB.size
 clear hI
 have HW0 := Q4 hB.size
 have HB := Q4 hB
 clear hB
 have H := h
 unfold asm_reader_value.f at H
 clear h
 replace H := Qi H
 obtain ⟨⟨t114, t115⟩, A30, H⟩ := H
 try dsimp only at H
 have A3 := Q4 A30
 clear A30
 by_cases c4 : t115 = true
 ·subst c4
  rw [if_pos rfl] at H
  replace H := Qi H
  obtain ⟨⟨t116, t117, t118⟩, A50, H⟩ := H
  try dsimp only at H
  have A5 := Q4 A50
  clear A50
  by_cases c6 : t118 = true
  ·subst c6
   rw [if_pos rfl] at H
   by_cases c7 : s0_7 = true
   ·subst c7
    rw [if_pos rfl] at H
    replace H := Qi H
    obtain ⟨⟨t119, t120⟩, A80, H⟩ := H
    try dsimp only at H
    have A8 := Q4 A80
    clear A80
    by_cases c9 : t116.toList = ([] : List UInt8)
    ·rw [if_pos c9] at H
     have c9b0 : (t116.toList == ([] : List UInt8)) = true := Qm c9
     have c9b1 : (t116.toList != ([] : List UInt8)) = false := Qh c9
     clear c9
     simp only [Option.some.injEq, Prod.mk.injEq] at H
     obtain ⟨rfl, rfl, rfl, rfl, rfl, rfl, rfl, rfl⟩ := H
     go_enter Tryz.func59, Tryz.ntmps59
     go_wp2_with (first|((with_reducible refine gate_callee (f := 78) rfl ?_); refine gL (some 12) Tryz.func78 #[.string a1, .string (⟨#[64]⟩ : ByteArray)] ?_; (with_reducible refine (strings_CutPrefix.calls a1 (⟨#[64]⟩ : ByteArray) t114 true _ A3.out).mono ?_); rintro e w10 ⟨rfl, hb⟩; refine ⟨_, rfl, ?_⟩; have n0_ := Q4 (IsS75.below (by repeat (first|(with_reducible first|exact HI0.out|apply IsS75.alloc|apply IsS75.drewN|apply IsS75.drew|apply IsS75.set_0|apply IsS75.set_1|apply IsS75.set_2|apply IsS75.set_3|apply IsS75.set_4|apply IsS75.set_5|apply IsS75.set_6|apply IsS75.set_7)|exact HI0.out)) hb); have n1_ := Q4 (KeepBut.trans (by repeat (first|(with_reducible first|exact HK.out|apply KeepBut.set_|apply keep_drewN|apply keep_drew|apply keep_alloc)|exact HK.out)) (KeepBut.of_below hb g none) (.inl rfl)); have n2_ := Q4 (Qg (by repeat (first|(with_reducible first|exact HB.out|apply Q8|apply Q5|apply Q9|refine Q6 ?_ (IsS75.ge HI0.out))|exact HB.out)) hb); clear HI0; clear HK; clear HB; have HI0 := n0_; have HK := n1_; have HB := n2_; clear n0_ n1_ n2_;(try clear hb);(try clear hb2);(try clear hk);(try clear hi))|((with_reducible refine gate_callee (f := 14) rfl ?_); refine gL (some 19) Tryz.func14 #[.string t114, .string (⟨#[43]⟩ : ByteArray)] ?_; (with_reducible refine (strings_Cut.calls t114 (⟨#[43]⟩ : ByteArray) t116 t117 true _ (env_mono HTAB.out (by repeat (first|(with_reducible first|exact HB.out|apply Q8|apply Q5|apply Q9|refine Q6 ?_ (IsS75.ge HI0.out))|exact HB.out))) A5.out).mono ?_); rintro e w11 ⟨rfl, hb⟩; refine ⟨_, rfl, ?_⟩; have n0_ := Q4 (IsS75.below (by repeat (first|(with_reducible first|exact HI0.out|apply IsS75.alloc|apply IsS75.drewN|apply IsS75.drew|apply IsS75.set_0|apply IsS75.set_1|apply IsS75.set_2|apply IsS75.set_3|apply IsS75.set_4|apply IsS75.set_5|apply IsS75.set_6|apply IsS75.set_7)|exact HI0.out)) hb); have n1_ := Q4 (KeepBut.trans (by repeat (first|(with_reducible first|exact HK.out|apply KeepBut.set_|apply keep_drewN|apply keep_drew|apply keep_alloc)|exact HK.out)) (KeepBut.of_below hb g none) (.inl rfl)); have n2_ := Q4 (Qg (by repeat (first|(with_reducible first|exact HB.out|apply Q8|apply Q5|apply Q9|refine Q6 ?_ (IsS75.ge HI0.out))|exact HB.out)) hb); clear HI0; clear HK; clear HB; have HI0 := n0_; have HK := n1_; have HB := n2_; clear n0_ n1_ n2_;(try clear hb);(try clear hb2);(try clear hk);(try clear hi); obtain ⟨HGz12, hgz12⟩ := HI0.out; have hcz12_0 := cellS75_0 HGz12; have hcz12_1 := cellS75_1 HGz12; have hcz12_2 := cellS75_2 HGz12; have hcz12_3 := cellS75_3 HGz12; have hcz12_4 := cellS75_4 HGz12; have hcz12_5 := cellS75_5 HGz12; have hcz12_6 := cellS75_6 HGz12; have hcz12_7 := cellS75_7 HGz12; have hfz12_0 := Qd HGz12 0; have hfz12_1 := Qd HGz12 1; have hfz12_2 := Qd HGz12 2; have hfz12_3 := Qd HGz12 3; have hfz12_4 := Qd HGz12 4; have hfz12_5 := Qd HGz12 5; have hfz12_6 := Qd HGz12 6; have hfz12_7 := Qd HGz12 7; clear HGz12 hgz12)|((with_reducible refine gate_callee (f := 79) rfl ?_); refine gL (some 46) Tryz.func79 #[.string t117] ?_; (with_reducible refine (asm_number.calls t117 t119 t120 _ (env_mono HTAB.out (by repeat (first|(with_reducible first|exact HB.out|apply Q8|apply Q5|apply Q9|refine Q6 ?_ (IsS75.ge HI0.out))|exact HB.out))) A8.out).mono ?_); rintro e w13 ⟨rfl, hb⟩; refine ⟨_, rfl, ?_⟩; have n0_ := Q4 (IsS75.below (show IsS75 w0 ((w11.setCell ⟨g, 6, none⟩ (.string t116)).setCell ⟨g, 7, none⟩ (.bool false)) g s0_0 s0_1 s0_2 s0_3 s0_4 s0_5 t116 false from by repeat (first|(with_reducible first|exact HI0.out|apply IsS75.alloc|apply IsS75.drewN|apply IsS75.drew|apply IsS75.set_0|apply IsS75.set_1|apply IsS75.set_2|apply IsS75.set_3|apply IsS75.set_4|apply IsS75.set_5|apply IsS75.set_6|apply IsS75.set_7)|exact HI0.out)) hb); have n1_ := Q4 (KeepBut.trans (by repeat (first|(with_reducible first|exact HK.out|apply KeepBut.set_|apply keep_drewN|apply keep_drew|apply keep_alloc)|exact HK.out)) (KeepBut.of_below hb g none) (.inl rfl)); have n2_ := Q4 (Qg (by repeat (first|(with_reducible first|exact HB.out|apply Q8|apply Q5|apply Q9|refine Q6 ?_ (IsS75.ge HI0.out))|exact HB.out)) hb); clear HI0; clear HK; clear HB; have HI0 := n0_; have HK := n1_; have HB := n2_; clear n0_ n1_ n2_;(try clear hb);(try clear hb2);(try clear hk);(try clear hi); obtain ⟨HGz14, hgz14⟩ := HI0.out; have hcz14_0 := cellS75_0 HGz14; have hcz14_1 := cellS75_1 HGz14; have hcz14_2 := cellS75_2 HGz14; have hcz14_3 := cellS75_3 HGz14; have hcz14_4 := cellS75_4 HGz14; have hcz14_5 := cellS75_5 HGz14; have hcz14_6 := cellS75_6 HGz14; have hcz14_7 := cellS75_7 HGz14; have hfz14_0 := Qd HGz14 0; have hfz14_1 := Qd HGz14 1; have hfz14_2 := Qd HGz14 2; have hfz14_3 := Qd HGz14 3; have hfz14_4 := Qd HGz14 4; have hfz14_5 := Qd HGz14 5; have hfz14_6 := Qd HGz14 6; have hfz14_7 := Qd HGz14 7; clear HGz14 hgz14))
     first | go_end0|((try simp only [Exit.inBlock, Exit.then]); refine bodyPost_ret (results_none rfl _ _ _) rfl ?_)
     exact ⟨by first|rfl|(simp [errW_none, errW_some] <;> rfl)|(simp [*, errW_none, errW_some] <;> rfl), by repeat (first|(with_reducible first|exact HI0.out|apply IsS75.alloc|apply IsS75.drewN|apply IsS75.drew|apply IsS75.set_0|apply IsS75.set_1|apply IsS75.set_2|apply IsS75.set_3|apply IsS75.set_4|apply IsS75.set_5|apply IsS75.set_6|apply IsS75.set_7)|exact HI0.out), by repeat (first|(with_reducible first|exact HB.out|apply Q8|apply Q5|apply Q9|refine Q6 ?_ (IsS75.ge HI0.out))|exact HB.out), by repeat (first|(with_reducible first|exact HK.out|apply KeepBut.set_|apply keep_drewN|apply keep_drew|apply keep_alloc)|exact HK.out)⟩
    ·rw [if_neg c9] at H
     have c9b0 : (t116.toList == ([] : List UInt8)) = false := Qk c9
     have c9b1 : (t116.toList != ([] : List UInt8)) = true := Ql c9
     simp only [Option.some.injEq, Prod.mk.injEq] at H
     obtain ⟨rfl, rfl, rfl, rfl, rfl, rfl, rfl, rfl⟩ := H
     go_enter Tryz.func59, Tryz.ntmps59
     go_wp2_with (first|((with_reducible refine gate_callee (f := 78) rfl ?_); refine gL (some 12) Tryz.func78 #[.string a1, .string (⟨#[64]⟩ : ByteArray)] ?_; (with_reducible refine (strings_CutPrefix.calls a1 (⟨#[64]⟩ : ByteArray) t114 true _ A3.out).mono ?_); rintro e w15 ⟨rfl, hb⟩; refine ⟨_, rfl, ?_⟩; have n0_ := Q4 (IsS75.below (by repeat (first|(with_reducible first|exact HI0.out|apply IsS75.alloc|apply IsS75.drewN|apply IsS75.drew|apply IsS75.set_0|apply IsS75.set_1|apply IsS75.set_2|apply IsS75.set_3|apply IsS75.set_4|apply IsS75.set_5|apply IsS75.set_6|apply IsS75.set_7)|exact HI0.out)) hb); have n1_ := Q4 (KeepBut.trans (by repeat (first|(with_reducible first|exact HK.out|apply KeepBut.set_|apply keep_drewN|apply keep_drew|apply keep_alloc)|exact HK.out)) (KeepBut.of_below hb g none) (.inl rfl)); have n2_ := Q4 (Qg (by repeat (first|(with_reducible first|exact HB.out|apply Q8|apply Q5|apply Q9|refine Q6 ?_ (IsS75.ge HI0.out))|exact HB.out)) hb); clear HI0; clear HK; clear HB; have HI0 := n0_; have HK := n1_; have HB := n2_; clear n0_ n1_ n2_;(try clear hb);(try clear hb2);(try clear hk);(try clear hi))|((with_reducible refine gate_callee (f := 14) rfl ?_); refine gL (some 19) Tryz.func14 #[.string t114, .string (⟨#[43]⟩ : ByteArray)] ?_; (with_reducible refine (strings_Cut.calls t114 (⟨#[43]⟩ : ByteArray) t116 t117 true _ (env_mono HTAB.out (by repeat (first|(with_reducible first|exact HB.out|apply Q8|apply Q5|apply Q9|refine Q6 ?_ (IsS75.ge HI0.out))|exact HB.out))) A5.out).mono ?_); rintro e w16 ⟨rfl, hb⟩; refine ⟨_, rfl, ?_⟩; have n0_ := Q4 (IsS75.below (by repeat (first|(with_reducible first|exact HI0.out|apply IsS75.alloc|apply IsS75.drewN|apply IsS75.drew|apply IsS75.set_0|apply IsS75.set_1|apply IsS75.set_2|apply IsS75.set_3|apply IsS75.set_4|apply IsS75.set_5|apply IsS75.set_6|apply IsS75.set_7)|exact HI0.out)) hb); have n1_ := Q4 (KeepBut.trans (by repeat (first|(with_reducible first|exact HK.out|apply KeepBut.set_|apply keep_drewN|apply keep_drew|apply keep_alloc)|exact HK.out)) (KeepBut.of_below hb g none) (.inl rfl)); have n2_ := Q4 (Qg (by repeat (first|(with_reducible first|exact HB.out|apply Q8|apply Q5|apply Q9|refine Q6 ?_ (IsS75.ge HI0.out))|exact HB.out)) hb); clear HI0; clear HK; clear HB; have HI0 := n0_; have HK := n1_; have HB := n2_; clear n0_ n1_ n2_;(try clear hb);(try clear hb2);(try clear hk);(try clear hi); obtain ⟨HGz17, hgz17⟩ := HI0.out; have hcz17_0 := cellS75_0 HGz17; have hcz17_1 := cellS75_1 HGz17; have hcz17_2 := cellS75_2 HGz17; have hcz17_3 := cellS75_3 HGz17; have hcz17_4 := cellS75_4 HGz17; have hcz17_5 := cellS75_5 HGz17; have hcz17_6 := cellS75_6 HGz17; have hcz17_7 := cellS75_7 HGz17; have hfz17_0 := Qd HGz17 0; have hfz17_1 := Qd HGz17 1; have hfz17_2 := Qd HGz17 2; have hfz17_3 := Qd HGz17 3; have hfz17_4 := Qd HGz17 4; have hfz17_5 := Qd HGz17 5; have hfz17_6 := Qd HGz17 6; have hfz17_7 := Qd HGz17 7; clear HGz17 hgz17)|((with_reducible refine gate_callee (f := 79) rfl ?_); refine gL (some 46) Tryz.func79 #[.string t117] ?_; (with_reducible refine (asm_number.calls t117 t119 t120 _ (env_mono HTAB.out (by repeat (first|(with_reducible first|exact HB.out|apply Q8|apply Q5|apply Q9|refine Q6 ?_ (IsS75.ge HI0.out))|exact HB.out))) A8.out).mono ?_); rintro e w18 ⟨rfl, hb⟩; refine ⟨_, rfl, ?_⟩; have n0_ := Q4 (IsS75.below (show IsS75 w0 ((w16.setCell ⟨g, 6, none⟩ (.string t116)).setCell ⟨g, 7, none⟩ (.bool true)) g s0_0 s0_1 s0_2 s0_3 s0_4 s0_5 t116 true from by repeat (first|(with_reducible first|exact HI0.out|apply IsS75.alloc|apply IsS75.drewN|apply IsS75.drew|apply IsS75.set_0|apply IsS75.set_1|apply IsS75.set_2|apply IsS75.set_3|apply IsS75.set_4|apply IsS75.set_5|apply IsS75.set_6|apply IsS75.set_7)|exact HI0.out)) hb); have n1_ := Q4 (KeepBut.trans (by repeat (first|(with_reducible first|exact HK.out|apply KeepBut.set_|apply keep_drewN|apply keep_drew|apply keep_alloc)|exact HK.out)) (KeepBut.of_below hb g none) (.inl rfl)); have n2_ := Q4 (Qg (by repeat (first|(with_reducible first|exact HB.out|apply Q8|apply Q5|apply Q9|refine Q6 ?_ (IsS75.ge HI0.out))|exact HB.out)) hb); clear HI0; clear HK; clear HB; have HI0 := n0_; have HK := n1_; have HB := n2_; clear n0_ n1_ n2_;(try clear hb);(try clear hb2);(try clear hk);(try clear hi); obtain ⟨HGz19, hgz19⟩ := HI0.out; have hcz19_0 := cellS75_0 HGz19; have hcz19_1 := cellS75_1 HGz19; have hcz19_2 := cellS75_2 HGz19; have hcz19_3 := cellS75_3 HGz19; have hcz19_4 := cellS75_4 HGz19; have hcz19_5 := cellS75_5 HGz19; have hcz19_6 := cellS75_6 HGz19; have hcz19_7 := cellS75_7 HGz19; have hfz19_0 := Qd HGz19 0; have hfz19_1 := Qd HGz19 1; have hfz19_2 := Qd HGz19 2; have hfz19_3 := Qd HGz19 3; have hfz19_4 := Qd HGz19 4; have hfz19_5 := Qd HGz19 5; have hfz19_6 := Qd HGz19 6; have hfz19_7 := Qd HGz19 7; clear HGz19 hgz19))
     first | go_end0|((try simp only [Exit.inBlock, Exit.then]); refine bodyPost_ret (results_none rfl _ _ _) rfl ?_)
     exact ⟨by first|rfl|(simp [errW_none, errW_some] <;> rfl)|(simp [*, errW_none, errW_some] <;> rfl), by repeat (first|(with_reducible first|exact HI0.out|apply IsS75.alloc|apply IsS75.drewN|apply IsS75.drew|apply IsS75.set_0|apply IsS75.set_1|apply IsS75.set_2|apply IsS75.set_3|apply IsS75.set_4|apply IsS75.set_5|apply IsS75.set_6|apply IsS75.set_7)|exact HI0.out), by repeat (first|(with_reducible first|exact HB.out|apply Q8|apply Q5|apply Q9|refine Q6 ?_ (IsS75.ge HI0.out))|exact HB.out), by repeat (first|(with_reducible first|exact HK.out|apply KeepBut.set_|apply keep_drewN|apply keep_drew|apply keep_alloc)|exact HK.out)⟩
   ·replace c7 := Bool.eq_false_iff.mpr c7
    subst c7
    rw [if_neg (show ¬ (false = true) by decide)] at H
    replace H := Qi H
    obtain ⟨⟨t121, t122⟩, A200, H⟩ := H
    try dsimp only at H
    have A20 := Q4 A200
    clear A200
    simp only [Option.some.injEq, Prod.mk.injEq] at H
    obtain ⟨rfl, rfl, rfl, rfl, rfl, rfl, rfl, rfl⟩ := H
    go_enter Tryz.func59, Tryz.ntmps59
    go_wp2_with (first|((with_reducible refine gate_callee (f := 78) rfl ?_); refine gL (some 12) Tryz.func78 #[.string a1, .string (⟨#[64]⟩ : ByteArray)] ?_; (with_reducible refine (strings_CutPrefix.calls a1 (⟨#[64]⟩ : ByteArray) t114 true _ A3.out).mono ?_); rintro e w21 ⟨rfl, hb⟩; refine ⟨_, rfl, ?_⟩; have n0_ := Q4 (IsS75.below (by repeat (first|(with_reducible first|exact HI0.out|apply IsS75.alloc|apply IsS75.drewN|apply IsS75.drew|apply IsS75.set_0|apply IsS75.set_1|apply IsS75.set_2|apply IsS75.set_3|apply IsS75.set_4|apply IsS75.set_5|apply IsS75.set_6|apply IsS75.set_7)|exact HI0.out)) hb); have n1_ := Q4 (KeepBut.trans (by repeat (first|(with_reducible first|exact HK.out|apply KeepBut.set_|apply keep_drewN|apply keep_drew|apply keep_alloc)|exact HK.out)) (KeepBut.of_below hb g none) (.inl rfl)); have n2_ := Q4 (Qg (by repeat (first|(with_reducible first|exact HB.out|apply Q8|apply Q5|apply Q9|refine Q6 ?_ (IsS75.ge HI0.out))|exact HB.out)) hb); clear HI0; clear HK; clear HB; have HI0 := n0_; have HK := n1_; have HB := n2_; clear n0_ n1_ n2_;(try clear hb);(try clear hb2);(try clear hk);(try clear hi))|((with_reducible refine gate_callee (f := 14) rfl ?_); refine gL (some 19) Tryz.func14 #[.string t114, .string (⟨#[43]⟩ : ByteArray)] ?_; (with_reducible refine (strings_Cut.calls t114 (⟨#[43]⟩ : ByteArray) t116 t117 true _ (env_mono HTAB.out (by repeat (first|(with_reducible first|exact HB.out|apply Q8|apply Q5|apply Q9|refine Q6 ?_ (IsS75.ge HI0.out))|exact HB.out))) A5.out).mono ?_); rintro e w22 ⟨rfl, hb⟩; refine ⟨_, rfl, ?_⟩; have n0_ := Q4 (IsS75.below (by repeat (first|(with_reducible first|exact HI0.out|apply IsS75.alloc|apply IsS75.drewN|apply IsS75.drew|apply IsS75.set_0|apply IsS75.set_1|apply IsS75.set_2|apply IsS75.set_3|apply IsS75.set_4|apply IsS75.set_5|apply IsS75.set_6|apply IsS75.set_7)|exact HI0.out)) hb); have n1_ := Q4 (KeepBut.trans (by repeat (first|(with_reducible first|exact HK.out|apply KeepBut.set_|apply keep_drewN|apply keep_drew|apply keep_alloc)|exact HK.out)) (KeepBut.of_below hb g none) (.inl rfl)); have n2_ := Q4 (Qg (by repeat (first|(with_reducible first|exact HB.out|apply Q8|apply Q5|apply Q9|refine Q6 ?_ (IsS75.ge HI0.out))|exact HB.out)) hb); clear HI0; clear HK; clear HB; have HI0 := n0_; have HK := n1_; have HB := n2_; clear n0_ n1_ n2_;(try clear hb);(try clear hb2);(try clear hk);(try clear hi); obtain ⟨HGz23, hgz23⟩ := HI0.out; have hcz23_0 := cellS75_0 HGz23; have hcz23_1 := cellS75_1 HGz23; have hcz23_2 := cellS75_2 HGz23; have hcz23_3 := cellS75_3 HGz23; have hcz23_4 := cellS75_4 HGz23; have hcz23_5 := cellS75_5 HGz23; have hcz23_6 := cellS75_6 HGz23; have hcz23_7 := cellS75_7 HGz23; have hfz23_0 := Qd HGz23 0; have hfz23_1 := Qd HGz23 1; have hfz23_2 := Qd HGz23 2; have hfz23_3 := Qd HGz23 3; have hfz23_4 := Qd HGz23 4; have hfz23_5 := Qd HGz23 5; have hfz23_6 := Qd HGz23 6; have hfz23_7 := Qd HGz23 7; clear HGz23 hgz23)|((with_reducible refine gate_callee (f := 79) rfl ?_); refine gL (some 46) Tryz.func79 #[.string t117] ?_; (with_reducible refine (asm_number.calls t117 t121 t122 _ (env_mono HTAB.out (by repeat (first|(with_reducible first|exact HB.out|apply Q8|apply Q5|apply Q9|refine Q6 ?_ (IsS75.ge HI0.out))|exact HB.out))) A20.out).mono ?_); rintro e w24 ⟨rfl, hb⟩; refine ⟨_, rfl, ?_⟩; have n0_ := Q4 (IsS75.below (show IsS75 w0 ((w22.setCell ⟨g, 6, none⟩ (.string t116)).setCell ⟨g, 7, none⟩ (.bool false)) g s0_0 s0_1 s0_2 s0_3 s0_4 s0_5 t116 false from by repeat (first|(with_reducible first|exact HI0.out|apply IsS75.alloc|apply IsS75.drewN|apply IsS75.drew|apply IsS75.set_0|apply IsS75.set_1|apply IsS75.set_2|apply IsS75.set_3|apply IsS75.set_4|apply IsS75.set_5|apply IsS75.set_6|apply IsS75.set_7)|exact HI0.out)) hb); have n1_ := Q4 (KeepBut.trans (by repeat (first|(with_reducible first|exact HK.out|apply KeepBut.set_|apply keep_drewN|apply keep_drew|apply keep_alloc)|exact HK.out)) (KeepBut.of_below hb g none) (.inl rfl)); have n2_ := Q4 (Qg (by repeat (first|(with_reducible first|exact HB.out|apply Q8|apply Q5|apply Q9|refine Q6 ?_ (IsS75.ge HI0.out))|exact HB.out)) hb); clear HI0; clear HK; clear HB; have HI0 := n0_; have HK := n1_; have HB := n2_; clear n0_ n1_ n2_;(try clear hb);(try clear hb2);(try clear hk);(try clear hi); obtain ⟨HGz25, hgz25⟩ := HI0.out; have hcz25_0 := cellS75_0 HGz25; have hcz25_1 := cellS75_1 HGz25; have hcz25_2 := cellS75_2 HGz25; have hcz25_3 := cellS75_3 HGz25; have hcz25_4 := cellS75_4 HGz25; have hcz25_5 := cellS75_5 HGz25; have hcz25_6 := cellS75_6 HGz25; have hcz25_7 := cellS75_7 HGz25; have hfz25_0 := Qd HGz25 0; have hfz25_1 := Qd HGz25 1; have hfz25_2 := Qd HGz25 2; have hfz25_3 := Qd HGz25 3; have hfz25_4 := Qd HGz25 4; have hfz25_5 := Qd HGz25 5; have hfz25_6 := Qd HGz25 6; have hfz25_7 := Qd HGz25 7; clear HGz25 hgz25))
    first | go_end0|((try simp only [Exit.inBlock, Exit.then]); refine bodyPost_ret (results_none rfl _ _ _) rfl ?_)
    exact ⟨by first|rfl|(simp [errW_none, errW_some] <;> rfl)|(simp [*, errW_none, errW_some] <;> rfl), by repeat (first|(with_reducible first|exact HI0.out|apply IsS75.alloc|apply IsS75.drewN|apply IsS75.drew|apply IsS75.set_0|apply IsS75.set_1|apply IsS75.set_2|apply IsS75.set_3|apply IsS75.set_4|apply IsS75.set_5|apply IsS75.set_6|apply IsS75.set_7)|exact HI0.out), by repeat (first|(with_reducible first|exact HB.out|apply Q8|apply Q5|apply Q9|refine Q6 ?_ (IsS75.ge HI0.out))|exact HB.out), by repeat (first|(with_reducible first|exact HK.out|apply KeepBut.set_|apply keep_drewN|apply keep_drew|apply keep_alloc)|exact HK.out)⟩
  ·replace c6 := Bool.eq_false_iff.mpr c6
   subst c6
   rw [if_neg (show ¬ (false = true) by decide)] at H
   by_cases c26 : s0_7 = true
   ·subst c26
    rw [if_pos rfl] at H
    replace H := Qi H
    obtain ⟨⟨t123, t124⟩, A270, H⟩ := H
    try dsimp only at H
    have A27 := Q4 A270
    clear A270
    by_cases c28 : t116.toList = ([] : List UInt8)
    ·rw [if_pos c28] at H
     have c28b0 : (t116.toList == ([] : List UInt8)) = true := Qm c28
     have c28b1 : (t116.toList != ([] : List UInt8)) = false := Qh c28
     clear c28
     simp only [Option.some.injEq, Prod.mk.injEq] at H
     obtain ⟨rfl, rfl, rfl, rfl, rfl, rfl, rfl, rfl⟩ := H
     go_enter Tryz.func59, Tryz.ntmps59
     go_wp2_with (first|((with_reducible refine gate_callee (f := 78) rfl ?_); refine gL (some 12) Tryz.func78 #[.string a1, .string (⟨#[64]⟩ : ByteArray)] ?_; (with_reducible refine (strings_CutPrefix.calls a1 (⟨#[64]⟩ : ByteArray) t114 true _ A3.out).mono ?_); rintro e w29 ⟨rfl, hb⟩; refine ⟨_, rfl, ?_⟩; have n0_ := Q4 (IsS75.below (by repeat (first|(with_reducible first|exact HI0.out|apply IsS75.alloc|apply IsS75.drewN|apply IsS75.drew|apply IsS75.set_0|apply IsS75.set_1|apply IsS75.set_2|apply IsS75.set_3|apply IsS75.set_4|apply IsS75.set_5|apply IsS75.set_6|apply IsS75.set_7)|exact HI0.out)) hb); have n1_ := Q4 (KeepBut.trans (by repeat (first|(with_reducible first|exact HK.out|apply KeepBut.set_|apply keep_drewN|apply keep_drew|apply keep_alloc)|exact HK.out)) (KeepBut.of_below hb g none) (.inl rfl)); have n2_ := Q4 (Qg (by repeat (first|(with_reducible first|exact HB.out|apply Q8|apply Q5|apply Q9|refine Q6 ?_ (IsS75.ge HI0.out))|exact HB.out)) hb); clear HI0; clear HK; clear HB; have HI0 := n0_; have HK := n1_; have HB := n2_; clear n0_ n1_ n2_;(try clear hb);(try clear hb2);(try clear hk);(try clear hi))|((with_reducible refine gate_callee (f := 14) rfl ?_); refine gL (some 19) Tryz.func14 #[.string t114, .string (⟨#[43]⟩ : ByteArray)] ?_; (with_reducible refine (strings_Cut.calls t114 (⟨#[43]⟩ : ByteArray) t116 t117 false _ (env_mono HTAB.out (by repeat (first|(with_reducible first|exact HB.out|apply Q8|apply Q5|apply Q9|refine Q6 ?_ (IsS75.ge HI0.out))|exact HB.out))) A5.out).mono ?_); rintro e w30 ⟨rfl, hb⟩; refine ⟨_, rfl, ?_⟩; have n0_ := Q4 (IsS75.below (by repeat (first|(with_reducible first|exact HI0.out|apply IsS75.alloc|apply IsS75.drewN|apply IsS75.drew|apply IsS75.set_0|apply IsS75.set_1|apply IsS75.set_2|apply IsS75.set_3|apply IsS75.set_4|apply IsS75.set_5|apply IsS75.set_6|apply IsS75.set_7)|exact HI0.out)) hb); have n1_ := Q4 (KeepBut.trans (by repeat (first|(with_reducible first|exact HK.out|apply KeepBut.set_|apply keep_drewN|apply keep_drew|apply keep_alloc)|exact HK.out)) (KeepBut.of_below hb g none) (.inl rfl)); have n2_ := Q4 (Qg (by repeat (first|(with_reducible first|exact HB.out|apply Q8|apply Q5|apply Q9|refine Q6 ?_ (IsS75.ge HI0.out))|exact HB.out)) hb); clear HI0; clear HK; clear HB; have HI0 := n0_; have HK := n1_; have HB := n2_; clear n0_ n1_ n2_;(try clear hb);(try clear hb2);(try clear hk);(try clear hi); obtain ⟨HGz31, hgz31⟩ := HI0.out; have hcz31_0 := cellS75_0 HGz31; have hcz31_1 := cellS75_1 HGz31; have hcz31_2 := cellS75_2 HGz31; have hcz31_3 := cellS75_3 HGz31; have hcz31_4 := cellS75_4 HGz31; have hcz31_5 := cellS75_5 HGz31; have hcz31_6 := cellS75_6 HGz31; have hcz31_7 := cellS75_7 HGz31; have hfz31_0 := Qd HGz31 0; have hfz31_1 := Qd HGz31 1; have hfz31_2 := Qd HGz31 2; have hfz31_3 := Qd HGz31 3; have hfz31_4 := Qd HGz31 4; have hfz31_5 := Qd HGz31 5; have hfz31_6 := Qd HGz31 6; have hfz31_7 := Qd HGz31 7; clear HGz31 hgz31)|((with_reducible refine gate_callee (f := 79) rfl ?_); refine gL (some 46) Tryz.func79 #[.string (⟨#[48]⟩ : ByteArray)] ?_; (with_reducible refine (asm_number.calls (⟨#[48]⟩ : ByteArray) t123 t124 _ (env_mono HTAB.out (by repeat (first|(with_reducible first|exact HB.out|apply Q8|apply Q5|apply Q9|refine Q6 ?_ (IsS75.ge HI0.out))|exact HB.out))) A27.out).mono ?_); rintro e w32 ⟨rfl, hb⟩; refine ⟨_, rfl, ?_⟩; have n0_ := Q4 (IsS75.below (show IsS75 w0 ((w30.setCell ⟨g, 6, none⟩ (.string t116)).setCell ⟨g, 7, none⟩ (.bool false)) g s0_0 s0_1 s0_2 s0_3 s0_4 s0_5 t116 false from by repeat (first|(with_reducible first|exact HI0.out|apply IsS75.alloc|apply IsS75.drewN|apply IsS75.drew|apply IsS75.set_0|apply IsS75.set_1|apply IsS75.set_2|apply IsS75.set_3|apply IsS75.set_4|apply IsS75.set_5|apply IsS75.set_6|apply IsS75.set_7)|exact HI0.out)) hb); have n1_ := Q4 (KeepBut.trans (by repeat (first|(with_reducible first|exact HK.out|apply KeepBut.set_|apply keep_drewN|apply keep_drew|apply keep_alloc)|exact HK.out)) (KeepBut.of_below hb g none) (.inl rfl)); have n2_ := Q4 (Qg (by repeat (first|(with_reducible first|exact HB.out|apply Q8|apply Q5|apply Q9|refine Q6 ?_ (IsS75.ge HI0.out))|exact HB.out)) hb); clear HI0; clear HK; clear HB; have HI0 := n0_; have HK := n1_; have HB := n2_; clear n0_ n1_ n2_;(try clear hb);(try clear hb2);(try clear hk);(try clear hi); obtain ⟨HGz33, hgz33⟩ := HI0.out; have hcz33_0 := cellS75_0 HGz33; have hcz33_1 := cellS75_1 HGz33; have hcz33_2 := cellS75_2 HGz33; have hcz33_3 := cellS75_3 HGz33; have hcz33_4 := cellS75_4 HGz33; have hcz33_5 := cellS75_5 HGz33; have hcz33_6 := cellS75_6 HGz33; have hcz33_7 := cellS75_7 HGz33; have hfz33_0 := Qd HGz33 0; have hfz33_1 := Qd HGz33 1; have hfz33_2 := Qd HGz33 2; have hfz33_3 := Qd HGz33 3; have hfz33_4 := Qd HGz33 4; have hfz33_5 := Qd HGz33 5; have hfz33_6 := Qd HGz33 6; have hfz33_7 := Qd HGz33 7; clear HGz33 hgz33))
     first | go_end0|((try simp only [Exit.inBlock, Exit.then]); refine bodyPost_ret (results_none rfl _ _ _) rfl ?_)
     exact ⟨by first|rfl|(simp [errW_none, errW_some] <;> rfl)|(simp [*, errW_none, errW_some] <;> rfl), by repeat (first|(with_reducible first|exact HI0.out|apply IsS75.alloc|apply IsS75.drewN|apply IsS75.drew|apply IsS75.set_0|apply IsS75.set_1|apply IsS75.set_2|apply IsS75.set_3|apply IsS75.set_4|apply IsS75.set_5|apply IsS75.set_6|apply IsS75.set_7)|exact HI0.out), by repeat (first|(with_reducible first|exact HB.out|apply Q8|apply Q5|apply Q9|refine Q6 ?_ (IsS75.ge HI0.out))|exact HB.out), by repeat (first|(with_reducible first|exact HK.out|apply KeepBut.set_|apply keep_drewN|apply keep_drew|apply keep_alloc)|exact HK.out)⟩
    ·rw [if_neg c28] at H
     have c28b0 : (t116.toList == ([] : List UInt8)) = false := Qk c28
     have c28b1 : (t116.toList != ([] : List UInt8)) = true := Ql c28
     simp only [Option.some.injEq, Prod.mk.injEq] at H
     obtain ⟨rfl, rfl, rfl, rfl, rfl, rfl, rfl, rfl⟩ := H
     go_enter Tryz.func59, Tryz.ntmps59
     go_wp2_with (first|((with_reducible refine gate_callee (f := 78) rfl ?_); refine gL (some 12) Tryz.func78 #[.string a1, .string (⟨#[64]⟩ : ByteArray)] ?_; (with_reducible refine (strings_CutPrefix.calls a1 (⟨#[64]⟩ : ByteArray) t114 true _ A3.out).mono ?_); rintro e w34 ⟨rfl, hb⟩; refine ⟨_, rfl, ?_⟩; have n0_ := Q4 (IsS75.below (by repeat (first|(with_reducible first|exact HI0.out|apply IsS75.alloc|apply IsS75.drewN|apply IsS75.drew|apply IsS75.set_0|apply IsS75.set_1|apply IsS75.set_2|apply IsS75.set_3|apply IsS75.set_4|apply IsS75.set_5|apply IsS75.set_6|apply IsS75.set_7)|exact HI0.out)) hb); have n1_ := Q4 (KeepBut.trans (by repeat (first|(with_reducible first|exact HK.out|apply KeepBut.set_|apply keep_drewN|apply keep_drew|apply keep_alloc)|exact HK.out)) (KeepBut.of_below hb g none) (.inl rfl)); have n2_ := Q4 (Qg (by repeat (first|(with_reducible first|exact HB.out|apply Q8|apply Q5|apply Q9|refine Q6 ?_ (IsS75.ge HI0.out))|exact HB.out)) hb); clear HI0; clear HK; clear HB; have HI0 := n0_; have HK := n1_; have HB := n2_; clear n0_ n1_ n2_;(try clear hb);(try clear hb2);(try clear hk);(try clear hi))|((with_reducible refine gate_callee (f := 14) rfl ?_); refine gL (some 19) Tryz.func14 #[.string t114, .string (⟨#[43]⟩ : ByteArray)] ?_; (with_reducible refine (strings_Cut.calls t114 (⟨#[43]⟩ : ByteArray) t116 t117 false _ (env_mono HTAB.out (by repeat (first|(with_reducible first|exact HB.out|apply Q8|apply Q5|apply Q9|refine Q6 ?_ (IsS75.ge HI0.out))|exact HB.out))) A5.out).mono ?_); rintro e w35 ⟨rfl, hb⟩; refine ⟨_, rfl, ?_⟩; have n0_ := Q4 (IsS75.below (by repeat (first|(with_reducible first|exact HI0.out|apply IsS75.alloc|apply IsS75.drewN|apply IsS75.drew|apply IsS75.set_0|apply IsS75.set_1|apply IsS75.set_2|apply IsS75.set_3|apply IsS75.set_4|apply IsS75.set_5|apply IsS75.set_6|apply IsS75.set_7)|exact HI0.out)) hb); have n1_ := Q4 (KeepBut.trans (by repeat (first|(with_reducible first|exact HK.out|apply KeepBut.set_|apply keep_drewN|apply keep_drew|apply keep_alloc)|exact HK.out)) (KeepBut.of_below hb g none) (.inl rfl)); have n2_ := Q4 (Qg (by repeat (first|(with_reducible first|exact HB.out|apply Q8|apply Q5|apply Q9|refine Q6 ?_ (IsS75.ge HI0.out))|exact HB.out)) hb); clear HI0; clear HK; clear HB; have HI0 := n0_; have HK := n1_; have HB := n2_; clear n0_ n1_ n2_;(try clear hb);(try clear hb2);(try clear hk);(try clear hi); obtain ⟨HGz36, hgz36⟩ := HI0.out; have hcz36_0 := cellS75_0 HGz36; have hcz36_1 := cellS75_1 HGz36; have hcz36_2 := cellS75_2 HGz36; have hcz36_3 := cellS75_3 HGz36; have hcz36_4 := cellS75_4 HGz36; have hcz36_5 := cellS75_5 HGz36; have hcz36_6 := cellS75_6 HGz36; have hcz36_7 := cellS75_7 HGz36; have hfz36_0 := Qd HGz36 0; have hfz36_1 := Qd HGz36 1; have hfz36_2 := Qd HGz36 2; have hfz36_3 := Qd HGz36 3; have hfz36_4 := Qd HGz36 4; have hfz36_5 := Qd HGz36 5; have hfz36_6 := Qd HGz36 6; have hfz36_7 := Qd HGz36 7; clear HGz36 hgz36)|((with_reducible refine gate_callee (f := 79) rfl ?_); refine gL (some 46) Tryz.func79 #[.string (⟨#[48]⟩ : ByteArray)] ?_; (with_reducible refine (asm_number.calls (⟨#[48]⟩ : ByteArray) t123 t124 _ (env_mono HTAB.out (by repeat (first|(with_reducible first|exact HB.out|apply Q8|apply Q5|apply Q9|refine Q6 ?_ (IsS75.ge HI0.out))|exact HB.out))) A27.out).mono ?_); rintro e w37 ⟨rfl, hb⟩; refine ⟨_, rfl, ?_⟩; have n0_ := Q4 (IsS75.below (show IsS75 w0 ((w35.setCell ⟨g, 6, none⟩ (.string t116)).setCell ⟨g, 7, none⟩ (.bool true)) g s0_0 s0_1 s0_2 s0_3 s0_4 s0_5 t116 true from by repeat (first|(with_reducible first|exact HI0.out|apply IsS75.alloc|apply IsS75.drewN|apply IsS75.drew|apply IsS75.set_0|apply IsS75.set_1|apply IsS75.set_2|apply IsS75.set_3|apply IsS75.set_4|apply IsS75.set_5|apply IsS75.set_6|apply IsS75.set_7)|exact HI0.out)) hb); have n1_ := Q4 (KeepBut.trans (by repeat (first|(with_reducible first|exact HK.out|apply KeepBut.set_|apply keep_drewN|apply keep_drew|apply keep_alloc)|exact HK.out)) (KeepBut.of_below hb g none) (.inl rfl)); have n2_ := Q4 (Qg (by repeat (first|(with_reducible first|exact HB.out|apply Q8|apply Q5|apply Q9|refine Q6 ?_ (IsS75.ge HI0.out))|exact HB.out)) hb); clear HI0; clear HK; clear HB; have HI0 := n0_; have HK := n1_; have HB := n2_; clear n0_ n1_ n2_;(try clear hb);(try clear hb2);(try clear hk);(try clear hi); obtain ⟨HGz38, hgz38⟩ := HI0.out; have hcz38_0 := cellS75_0 HGz38; have hcz38_1 := cellS75_1 HGz38; have hcz38_2 := cellS75_2 HGz38; have hcz38_3 := cellS75_3 HGz38; have hcz38_4 := cellS75_4 HGz38; have hcz38_5 := cellS75_5 HGz38; have hcz38_6 := cellS75_6 HGz38; have hcz38_7 := cellS75_7 HGz38; have hfz38_0 := Qd HGz38 0; have hfz38_1 := Qd HGz38 1; have hfz38_2 := Qd HGz38 2; have hfz38_3 := Qd HGz38 3; have hfz38_4 := Qd HGz38 4; have hfz38_5 := Qd HGz38 5; have hfz38_6 := Qd HGz38 6; have hfz38_7 := Qd HGz38 7; clear HGz38 hgz38))
     first | go_end0|((try simp only [Exit.inBlock, Exit.then]); refine bodyPost_ret (results_none rfl _ _ _) rfl ?_)
     exact ⟨by first|rfl|(simp [errW_none, errW_some] <;> rfl)|(simp [*, errW_none, errW_some] <;> rfl), by repeat (first|(with_reducible first|exact HI0.out|apply IsS75.alloc|apply IsS75.drewN|apply IsS75.drew|apply IsS75.set_0|apply IsS75.set_1|apply IsS75.set_2|apply IsS75.set_3|apply IsS75.set_4|apply IsS75.set_5|apply IsS75.set_6|apply IsS75.set_7)|exact HI0.out), by repeat (first|(with_reducible first|exact HB.out|apply Q8|apply Q5|apply Q9|refine Q6 ?_ (IsS75.ge HI0.out))|exact HB.out), by repeat (first|(with_reducible first|exact HK.out|apply KeepBut.set_|apply keep_drewN|apply keep_drew|apply keep_alloc)|exact HK.out)⟩
   ·replace c26 := Bool.eq_false_iff.mpr c26
    subst c26
    rw [if_neg (show ¬ (false = true) by decide)] at H
    replace H := Qi H
    obtain ⟨⟨t125, t126⟩, A390, H⟩ := H
    try dsimp only at H
    have A39 := Q4 A390
    clear A390
    simp only [Option.some.injEq, Prod.mk.injEq] at H
    obtain ⟨rfl, rfl, rfl, rfl, rfl, rfl, rfl, rfl⟩ := H
    go_enter Tryz.func59, Tryz.ntmps59
    go_wp2_with (first|((with_reducible refine gate_callee (f := 78) rfl ?_); refine gL (some 12) Tryz.func78 #[.string a1, .string (⟨#[64]⟩ : ByteArray)] ?_; (with_reducible refine (strings_CutPrefix.calls a1 (⟨#[64]⟩ : ByteArray) t114 true _ A3.out).mono ?_); rintro e w40 ⟨rfl, hb⟩; refine ⟨_, rfl, ?_⟩; have n0_ := Q4 (IsS75.below (by repeat (first|(with_reducible first|exact HI0.out|apply IsS75.alloc|apply IsS75.drewN|apply IsS75.drew|apply IsS75.set_0|apply IsS75.set_1|apply IsS75.set_2|apply IsS75.set_3|apply IsS75.set_4|apply IsS75.set_5|apply IsS75.set_6|apply IsS75.set_7)|exact HI0.out)) hb); have n1_ := Q4 (KeepBut.trans (by repeat (first|(with_reducible first|exact HK.out|apply KeepBut.set_|apply keep_drewN|apply keep_drew|apply keep_alloc)|exact HK.out)) (KeepBut.of_below hb g none) (.inl rfl)); have n2_ := Q4 (Qg (by repeat (first|(with_reducible first|exact HB.out|apply Q8|apply Q5|apply Q9|refine Q6 ?_ (IsS75.ge HI0.out))|exact HB.out)) hb); clear HI0; clear HK; clear HB; have HI0 := n0_; have HK := n1_; have HB := n2_; clear n0_ n1_ n2_;(try clear hb);(try clear hb2);(try clear hk);(try clear hi))|((with_reducible refine gate_callee (f := 14) rfl ?_); refine gL (some 19) Tryz.func14 #[.string t114, .string (⟨#[43]⟩ : ByteArray)] ?_; (with_reducible refine (strings_Cut.calls t114 (⟨#[43]⟩ : ByteArray) t116 t117 false _ (env_mono HTAB.out (by repeat (first|(with_reducible first|exact HB.out|apply Q8|apply Q5|apply Q9|refine Q6 ?_ (IsS75.ge HI0.out))|exact HB.out))) A5.out).mono ?_); rintro e w41 ⟨rfl, hb⟩; refine ⟨_, rfl, ?_⟩; have n0_ := Q4 (IsS75.below (by repeat (first|(with_reducible first|exact HI0.out|apply IsS75.alloc|apply IsS75.drewN|apply IsS75.drew|apply IsS75.set_0|apply IsS75.set_1|apply IsS75.set_2|apply IsS75.set_3|apply IsS75.set_4|apply IsS75.set_5|apply IsS75.set_6|apply IsS75.set_7)|exact HI0.out)) hb); have n1_ := Q4 (KeepBut.trans (by repeat (first|(with_reducible first|exact HK.out|apply KeepBut.set_|apply keep_drewN|apply keep_drew|apply keep_alloc)|exact HK.out)) (KeepBut.of_below hb g none) (.inl rfl)); have n2_ := Q4 (Qg (by repeat (first|(with_reducible first|exact HB.out|apply Q8|apply Q5|apply Q9|refine Q6 ?_ (IsS75.ge HI0.out))|exact HB.out)) hb); clear HI0; clear HK; clear HB; have HI0 := n0_; have HK := n1_; have HB := n2_; clear n0_ n1_ n2_;(try clear hb);(try clear hb2);(try clear hk);(try clear hi); obtain ⟨HGz42, hgz42⟩ := HI0.out; have hcz42_0 := cellS75_0 HGz42; have hcz42_1 := cellS75_1 HGz42; have hcz42_2 := cellS75_2 HGz42; have hcz42_3 := cellS75_3 HGz42; have hcz42_4 := cellS75_4 HGz42; have hcz42_5 := cellS75_5 HGz42; have hcz42_6 := cellS75_6 HGz42; have hcz42_7 := cellS75_7 HGz42; have hfz42_0 := Qd HGz42 0; have hfz42_1 := Qd HGz42 1; have hfz42_2 := Qd HGz42 2; have hfz42_3 := Qd HGz42 3; have hfz42_4 := Qd HGz42 4; have hfz42_5 := Qd HGz42 5; have hfz42_6 := Qd HGz42 6; have hfz42_7 := Qd HGz42 7; clear HGz42 hgz42)|((with_reducible refine gate_callee (f := 79) rfl ?_); refine gL (some 46) Tryz.func79 #[.string (⟨#[48]⟩ : ByteArray)] ?_; (with_reducible refine (asm_number.calls (⟨#[48]⟩ : ByteArray) t125 t126 _ (env_mono HTAB.out (by repeat (first|(with_reducible first|exact HB.out|apply Q8|apply Q5|apply Q9|refine Q6 ?_ (IsS75.ge HI0.out))|exact HB.out))) A39.out).mono ?_); rintro e w43 ⟨rfl, hb⟩; refine ⟨_, rfl, ?_⟩; have n0_ := Q4 (IsS75.below (show IsS75 w0 ((w41.setCell ⟨g, 6, none⟩ (.string t116)).setCell ⟨g, 7, none⟩ (.bool false)) g s0_0 s0_1 s0_2 s0_3 s0_4 s0_5 t116 false from by repeat (first|(with_reducible first|exact HI0.out|apply IsS75.alloc|apply IsS75.drewN|apply IsS75.drew|apply IsS75.set_0|apply IsS75.set_1|apply IsS75.set_2|apply IsS75.set_3|apply IsS75.set_4|apply IsS75.set_5|apply IsS75.set_6|apply IsS75.set_7)|exact HI0.out)) hb); have n1_ := Q4 (KeepBut.trans (by repeat (first|(with_reducible first|exact HK.out|apply KeepBut.set_|apply keep_drewN|apply keep_drew|apply keep_alloc)|exact HK.out)) (KeepBut.of_below hb g none) (.inl rfl)); have n2_ := Q4 (Qg (by repeat (first|(with_reducible first|exact HB.out|apply Q8|apply Q5|apply Q9|refine Q6 ?_ (IsS75.ge HI0.out))|exact HB.out)) hb); clear HI0; clear HK; clear HB; have HI0 := n0_; have HK := n1_; have HB := n2_; clear n0_ n1_ n2_;(try clear hb);(try clear hb2);(try clear hk);(try clear hi); obtain ⟨HGz44, hgz44⟩ := HI0.out; have hcz44_0 := cellS75_0 HGz44; have hcz44_1 := cellS75_1 HGz44; have hcz44_2 := cellS75_2 HGz44; have hcz44_3 := cellS75_3 HGz44; have hcz44_4 := cellS75_4 HGz44; have hcz44_5 := cellS75_5 HGz44; have hcz44_6 := cellS75_6 HGz44; have hcz44_7 := cellS75_7 HGz44; have hfz44_0 := Qd HGz44 0; have hfz44_1 := Qd HGz44 1; have hfz44_2 := Qd HGz44 2; have hfz44_3 := Qd HGz44 3; have hfz44_4 := Qd HGz44 4; have hfz44_5 := Qd HGz44 5; have hfz44_6 := Qd HGz44 6; have hfz44_7 := Qd HGz44 7; clear HGz44 hgz44))
    first | go_end0|((try simp only [Exit.inBlock, Exit.then]); refine bodyPost_ret (results_none rfl _ _ _) rfl ?_)
    exact ⟨by first|rfl|(simp [errW_none, errW_some] <;> rfl)|(simp [*, errW_none, errW_some] <;> rfl), by repeat (first|(with_reducible first|exact HI0.out|apply IsS75.alloc|apply IsS75.drewN|apply IsS75.drew|apply IsS75.set_0|apply IsS75.set_1|apply IsS75.set_2|apply IsS75.set_3|apply IsS75.set_4|apply IsS75.set_5|apply IsS75.set_6|apply IsS75.set_7)|exact HI0.out), by repeat (first|(with_reducible first|exact HB.out|apply Q8|apply Q5|apply Q9|refine Q6 ?_ (IsS75.ge HI0.out))|exact HB.out), by repeat (first|(with_reducible first|exact HK.out|apply KeepBut.set_|apply keep_drewN|apply keep_drew|apply keep_alloc)|exact HK.out)⟩
 ·replace c4 := Bool.eq_false_iff.mpr c4
  subst c4
  rw [if_neg (show ¬ (false = true) by decide)] at H
  replace H := Qi H
  obtain ⟨⟨t127, t128⟩, A450, H⟩ := H
  try dsimp only at H
  have A45 := Q4 A450
  clear A450
  by_cases c46 : s0_7 = true
  ·subst c46
   rw [if_pos rfl] at H
   simp only [Option.some.injEq, Prod.mk.injEq] at H
   obtain ⟨rfl, rfl, rfl, rfl, rfl, rfl, rfl, rfl⟩ := H
   go_enter Tryz.func59, Tryz.ntmps59
   go_wp2_with (first|((with_reducible refine gate_callee (f := 78) rfl ?_); refine gL (some 12) Tryz.func78 #[.string a1, .string (⟨#[64]⟩ : ByteArray)] ?_; (with_reducible refine (strings_CutPrefix.calls a1 (⟨#[64]⟩ : ByteArray) t114 false _ A3.out).mono ?_); rintro e w47 ⟨rfl, hb⟩; refine ⟨_, rfl, ?_⟩; have n0_ := Q4 (IsS75.below (by repeat (first|(with_reducible first|exact HI0.out|apply IsS75.alloc|apply IsS75.drewN|apply IsS75.drew|apply IsS75.set_0|apply IsS75.set_1|apply IsS75.set_2|apply IsS75.set_3|apply IsS75.set_4|apply IsS75.set_5|apply IsS75.set_6|apply IsS75.set_7)|exact HI0.out)) hb); have n1_ := Q4 (KeepBut.trans (by repeat (first|(with_reducible first|exact HK.out|apply KeepBut.set_|apply keep_drewN|apply keep_drew|apply keep_alloc)|exact HK.out)) (KeepBut.of_below hb g none) (.inl rfl)); have n2_ := Q4 (Qg (by repeat (first|(with_reducible first|exact HB.out|apply Q8|apply Q5|apply Q9|refine Q6 ?_ (IsS75.ge HI0.out))|exact HB.out)) hb); clear HI0; clear HK; clear HB; have HI0 := n0_; have HK := n1_; have HB := n2_; clear n0_ n1_ n2_;(try clear hb);(try clear hb2);(try clear hk);(try clear hi))|((with_reducible refine gate_callee (f := 79) rfl ?_); refine gL (some 46) Tryz.func79 #[.string a1] ?_; (with_reducible refine (asm_number.calls a1 t127 t128 _ (env_mono HTAB.out (by repeat (first|(with_reducible first|exact HB.out|apply Q8|apply Q5|apply Q9|refine Q6 ?_ (IsS75.ge HI0.out))|exact HB.out))) A45.out).mono ?_); rintro e w48 ⟨rfl, hb⟩; refine ⟨_, rfl, ?_⟩; have n0_ := Q4 (IsS75.below (by repeat (first|(with_reducible first|exact HI0.out|apply IsS75.alloc|apply IsS75.drewN|apply IsS75.drew|apply IsS75.set_0|apply IsS75.set_1|apply IsS75.set_2|apply IsS75.set_3|apply IsS75.set_4|apply IsS75.set_5|apply IsS75.set_6|apply IsS75.set_7)|exact HI0.out)) hb); have n1_ := Q4 (KeepBut.trans (by repeat (first|(with_reducible first|exact HK.out|apply KeepBut.set_|apply keep_drewN|apply keep_drew|apply keep_alloc)|exact HK.out)) (KeepBut.of_below hb g none) (.inl rfl)); have n2_ := Q4 (Qg (by repeat (first|(with_reducible first|exact HB.out|apply Q8|apply Q5|apply Q9|refine Q6 ?_ (IsS75.ge HI0.out))|exact HB.out)) hb); clear HI0; clear HK; clear HB; have HI0 := n0_; have HK := n1_; have HB := n2_; clear n0_ n1_ n2_;(try clear hb);(try clear hb2);(try clear hk);(try clear hi); obtain ⟨HGz49, hgz49⟩ := HI0.out; have hcz49_0 := cellS75_0 HGz49; have hcz49_1 := cellS75_1 HGz49; have hcz49_2 := cellS75_2 HGz49; have hcz49_3 := cellS75_3 HGz49; have hcz49_4 := cellS75_4 HGz49; have hcz49_5 := cellS75_5 HGz49; have hcz49_6 := cellS75_6 HGz49; have hcz49_7 := cellS75_7 HGz49; have hfz49_0 := Qd HGz49 0; have hfz49_1 := Qd HGz49 1; have hfz49_2 := Qd HGz49 2; have hfz49_3 := Qd HGz49 3; have hfz49_4 := Qd HGz49 4; have hfz49_5 := Qd HGz49 5; have hfz49_6 := Qd HGz49 6; have hfz49_7 := Qd HGz49 7; clear HGz49 hgz49))
   first | go_end0|((try simp only [Exit.inBlock, Exit.then]); refine bodyPost_ret (results_none rfl _ _ _) rfl ?_)
   exact ⟨by first|rfl|(simp [errW_none, errW_some] <;> rfl)|(simp [*, errW_none, errW_some] <;> rfl), by repeat (first|(with_reducible first|exact HI0.out|apply IsS75.alloc|apply IsS75.drewN|apply IsS75.drew|apply IsS75.set_0|apply IsS75.set_1|apply IsS75.set_2|apply IsS75.set_3|apply IsS75.set_4|apply IsS75.set_5|apply IsS75.set_6|apply IsS75.set_7)|exact HI0.out), by repeat (first|(with_reducible first|exact HB.out|apply Q8|apply Q5|apply Q9|refine Q6 ?_ (IsS75.ge HI0.out))|exact HB.out), by repeat (first|(with_reducible first|exact HK.out|apply KeepBut.set_|apply keep_drewN|apply keep_drew|apply keep_alloc)|exact HK.out)⟩
  ·replace c46 := Bool.eq_false_iff.mpr c46
   subst c46
   rw [if_neg (show ¬ (false = true) by decide)] at H
   simp only [Option.some.injEq, Prod.mk.injEq] at H
   obtain ⟨rfl, rfl, rfl, rfl, rfl, rfl, rfl, rfl⟩ := H
   go_enter Tryz.func59, Tryz.ntmps59
   go_wp2_with (first|((with_reducible refine gate_callee (f := 78) rfl ?_); refine gL (some 12) Tryz.func78 #[.string a1, .string (⟨#[64]⟩ : ByteArray)] ?_; (with_reducible refine (strings_CutPrefix.calls a1 (⟨#[64]⟩ : ByteArray) t114 false _ A3.out).mono ?_); rintro e w50 ⟨rfl, hb⟩; refine ⟨_, rfl, ?_⟩; have n0_ := Q4 (IsS75.below (by repeat (first|(with_reducible first|exact HI0.out|apply IsS75.alloc|apply IsS75.drewN|apply IsS75.drew|apply IsS75.set_0|apply IsS75.set_1|apply IsS75.set_2|apply IsS75.set_3|apply IsS75.set_4|apply IsS75.set_5|apply IsS75.set_6|apply IsS75.set_7)|exact HI0.out)) hb); have n1_ := Q4 (KeepBut.trans (by repeat (first|(with_reducible first|exact HK.out|apply KeepBut.set_|apply keep_drewN|apply keep_drew|apply keep_alloc)|exact HK.out)) (KeepBut.of_below hb g none) (.inl rfl)); have n2_ := Q4 (Qg (by repeat (first|(with_reducible first|exact HB.out|apply Q8|apply Q5|apply Q9|refine Q6 ?_ (IsS75.ge HI0.out))|exact HB.out)) hb); clear HI0; clear HK; clear HB; have HI0 := n0_; have HK := n1_; have HB := n2_; clear n0_ n1_ n2_;(try clear hb);(try clear hb2);(try clear hk);(try clear hi))|((with_reducible refine gate_callee (f := 79) rfl ?_); refine gL (some 46) Tryz.func79 #[.string a1] ?_; (with_reducible refine (asm_number.calls a1 t127 t128 _ (env_mono HTAB.out (by repeat (first|(with_reducible first|exact HB.out|apply Q8|apply Q5|apply Q9|refine Q6 ?_ (IsS75.ge HI0.out))|exact HB.out))) A45.out).mono ?_); rintro e w51 ⟨rfl, hb⟩; refine ⟨_, rfl, ?_⟩; have n0_ := Q4 (IsS75.below (by repeat (first|(with_reducible first|exact HI0.out|apply IsS75.alloc|apply IsS75.drewN|apply IsS75.drew|apply IsS75.set_0|apply IsS75.set_1|apply IsS75.set_2|apply IsS75.set_3|apply IsS75.set_4|apply IsS75.set_5|apply IsS75.set_6|apply IsS75.set_7)|exact HI0.out)) hb); have n1_ := Q4 (KeepBut.trans (by repeat (first|(with_reducible first|exact HK.out|apply KeepBut.set_|apply keep_drewN|apply keep_drew|apply keep_alloc)|exact HK.out)) (KeepBut.of_below hb g none) (.inl rfl)); have n2_ := Q4 (Qg (by repeat (first|(with_reducible first|exact HB.out|apply Q8|apply Q5|apply Q9|refine Q6 ?_ (IsS75.ge HI0.out))|exact HB.out)) hb); clear HI0; clear HK; clear HB; have HI0 := n0_; have HK := n1_; have HB := n2_; clear n0_ n1_ n2_;(try clear hb);(try clear hb2);(try clear hk);(try clear hi); obtain ⟨HGz52, hgz52⟩ := HI0.out; have hcz52_0 := cellS75_0 HGz52; have hcz52_1 := cellS75_1 HGz52; have hcz52_2 := cellS75_2 HGz52; have hcz52_3 := cellS75_3 HGz52; have hcz52_4 := cellS75_4 HGz52; have hcz52_5 := cellS75_5 HGz52; have hcz52_6 := cellS75_6 HGz52; have hcz52_7 := cellS75_7 HGz52; have hfz52_0 := Qd HGz52 0; have hfz52_1 := Qd HGz52 1; have hfz52_2 := Qd HGz52 2; have hfz52_3 := Qd HGz52 3; have hfz52_4 := Qd HGz52 4; have hfz52_5 := Qd HGz52 5; have hfz52_6 := Qd HGz52 6; have hfz52_7 := Qd HGz52 7; clear HGz52 hgz52))
   first | go_end0|((try simp only [Exit.inBlock, Exit.then]); refine bodyPost_ret (results_none rfl _ _ _) rfl ?_)
   exact ⟨by first|rfl|(simp [errW_none, errW_some] <;> rfl)|(simp [*, errW_none, errW_some] <;> rfl), by repeat (first|(with_reducible first|exact HI0.out|apply IsS75.alloc|apply IsS75.drewN|apply IsS75.drew|apply IsS75.set_0|apply IsS75.set_1|apply IsS75.set_2|apply IsS75.set_3|apply IsS75.set_4|apply IsS75.set_5|apply IsS75.set_6|apply IsS75.set_7)|exact HI0.out), by repeat (first|(with_reducible first|exact HB.out|apply Q8|apply Q5|apply Q9|refine Q6 ?_ (IsS75.ge HI0.out))|exact HB.out), by repeat (first|(with_reducible first|exact HK.out|apply KeepBut.set_|apply keep_drewN|apply keep_drew|apply keep_alloc)|exact HK.out)⟩

/-! ### asm_reader_part: function 32 -/
def asm_reader_part.f (s0_0 : ByteArray) (s0_1 : Int) (s0_2 : Int) (s0_3 : Int) (s0_4 : Int) (s0_5 : Int) (s0_6 : ByteArray) (s0_7 : Bool) (a1 : Int) (a2 : ByteArray) : Option (ByteArray × Int × Int × Int × Int × Int × ByteArray × Bool) := if a1 = 97 then ((asm_reader_register.f s0_0 s0_1 s0_2 s0_3 s0_4 s0_5 s0_6 s0_7 a2).bind fun bt129 => (some (bt129.2.1, bt129.2.2.1, bt129.1, bt129.2.2.2.2.1, bt129.2.2.2.2.2.1, bt129.2.2.2.2.2.2.1, bt129.2.2.2.2.2.2.2.1, bt129.2.2.2.2.2.2.2.2))) else (if a1 = 98 then ((asm_reader_register.f s0_0 s0_1 s0_2 s0_3 s0_4 s0_5 s0_6 s0_7 a2).bind fun bt138 => (some (bt138.2.1, bt138.2.2.1, bt138.2.2.2.1, bt138.1, bt138.2.2.2.2.2.1, bt138.2.2.2.2.2.2.1, bt138.2.2.2.2.2.2.2.1, bt138.2.2.2.2.2.2.2.2))) else (if a1 = 99 then ((asm_reader_register.f s0_0 s0_1 s0_2 s0_3 s0_4 s0_5 s0_6 s0_7 a2).bind fun bt147 => (some (bt147.2.1, bt147.2.2.1, bt147.2.2.2.1, bt147.2.2.2.2.1, bt147.1, bt147.2.2.2.2.2.2.1, bt147.2.2.2.2.2.2.2.1, bt147.2.2.2.2.2.2.2.2))) else ((asm_reader_value.f s0_0 s0_1 s0_2 s0_3 s0_4 s0_5 s0_6 s0_7 a2).bind fun bt156 => (some (bt156.1, bt156.2.1, bt156.2.2.1, bt156.2.2.2.1, bt156.2.2.2.2.1, bt156.2.2.2.2.2.1, bt156.2.2.2.2.2.2.1, bt156.2.2.2.2.2.2.2)))))
set_option maxHeartbeats 8000000 in
set_option maxRecDepth 100000 in
theorem asm_reader_part.calls (g : Nat) (s0_0 : ByteArray) (s0_1 : Int) (s0_2 : Int) (s0_3 : Int) (s0_4 : Int) (s0_5 : Int) (s0_6 : ByteArray) (s0_7 : Bool) (a1 : Int) (a2 : ByteArray) (r1 : ByteArray) (r2 : Int) (r3 : Int) (r4 : Int) (r5 : Int) (r6 : Int) (r7 : ByteArray) (r8 : Bool) (w0 w : World) (HTAB0 : Env w0) (hI : IsS75 w0 w g s0_0 s0_1 s0_2 s0_3 s0_4 s0_5 s0_6 s0_7) (hB : Below w0.heap.size w0 w) (h : asm_reader_part.f s0_0 s0_1 s0_2 s0_3 s0_4 s0_5 s0_6 s0_7 a1 a2 = some (r1, r2, r3, r4, r5, r6, r7, r8)) :
  Calls Tryz.prog 32 #[.pointer (some ⟨g, 0, none⟩), .int .i32 a1, .string a2] w fun e w' => e = .returned (.tuple #[]) ∧ IsS75 w0 w' g r1 r2 r3 r4 r5 r6 r7 r8 ∧ Below w0.heap.size w0 w' ∧ KeepBut w w' g none := by
 have HTAB := Q4 HTAB0
 clear HTAB0
 have HI0 := Q4 hI
 have HK := Q4 (KeepBut.refl w g none)
 have HL := Q4 hB.size
 clear hI
 have HW0 := Q4 hB.size
 have HB := Q4 hB
 clear hB
 have H := h
 unfold asm_reader_part.f at H
 clear h
 by_cases c4 : a1 = 97
 ·rw [if_pos c4] at H
  have c4b0 : (a1 == 97) = true := Qm c4
  have c4b1 : (a1 != 97) = false := Qh c4
  clear c4
  replace H := Qi H
  obtain ⟨⟨t129, t130, t131, t132, t133, t134, t135, t136, t137⟩, A50, H⟩ := H
  try dsimp only at H
  have A5 := Q4 A50
  clear A50
  simp only [Option.some.injEq, Prod.mk.injEq] at H
  obtain ⟨rfl, rfl, rfl, rfl, rfl, rfl, rfl, rfl⟩ := H
  go_enter Tryz.func32, Tryz.ntmps32
  go_wp2_with (first|((with_reducible refine gate_callee (f := 58) rfl ?_); refine gL (some 15) Tryz.func58 #[.pointer (some ⟨g, 0, none⟩), .string a2] ?_; (with_reducible refine (asm_reader_register.calls g s0_0 s0_1 s0_2 s0_3 s0_4 s0_5 s0_6 s0_7 a2 t129 t130 t131 t132 t133 t134 t135 t136 t137 w0 _ HTAB.out ?side1 ?side2 A5.out).mono ?_); (case side1 => repeat (first|(with_reducible first|exact HI0.out|apply IsS75.alloc|apply IsS75.drewN|apply IsS75.drew|apply IsS75.set_0|apply IsS75.set_1|apply IsS75.set_2|apply IsS75.set_3|apply IsS75.set_4|apply IsS75.set_5|apply IsS75.set_6|apply IsS75.set_7)|exact HI0.out)); (case side2 => repeat (first|(with_reducible first|exact HB.out|apply Q8|apply Q5|apply Q9|refine Q6 ?_ (IsS75.ge HI0.out))|exact HB.out)); rintro e w6 ⟨rfl, hi, hb, hk⟩; refine ⟨_, rfl, ?_⟩; have n0_ := Q4 (KeepBut.trans (by repeat (first|(with_reducible first|exact HK.out|apply KeepBut.set_|apply keep_drewN|apply keep_drew|apply keep_alloc)|exact HK.out)) hk (.inl rfl)); have n1_ := Q4 (hb); have n2_ := Q4 (hi); clear HK; clear HB; clear HI0; have HK := n0_; have HB := n1_; have HI0 := n2_; clear n0_ n1_ n2_;(try clear hb);(try clear hb2);(try clear hk);(try clear hi); obtain ⟨HGz7, hgz7⟩ := HI0.out; have hcz7_0 := cellS75_0 HGz7; have hcz7_1 := cellS75_1 HGz7; have hcz7_2 := cellS75_2 HGz7; have hcz7_3 := cellS75_3 HGz7; have hcz7_4 := cellS75_4 HGz7; have hcz7_5 := cellS75_5 HGz7; have hcz7_6 := cellS75_6 HGz7; have hcz7_7 := cellS75_7 HGz7; have hfz7_0 := Qd HGz7 0; have hfz7_1 := Qd HGz7 1; have hfz7_2 := Qd HGz7 2; have hfz7_3 := Qd HGz7 3; have hfz7_4 := Qd HGz7 4; have hfz7_5 := Qd HGz7 5; have hfz7_6 := Qd HGz7 6; have hfz7_7 := Qd HGz7 7; clear HGz7 hgz7))
  first | go_end0|((try simp only [Exit.inBlock, Exit.then]); refine bodyPost_ret (results_none rfl _ _ _) rfl ?_)
  exact ⟨by first|rfl|(simp [errW_none, errW_some] <;> rfl)|(simp [*, errW_none, errW_some] <;> rfl), by repeat (first|(with_reducible first|exact HI0.out|apply IsS75.alloc|apply IsS75.drewN|apply IsS75.drew|apply IsS75.set_0|apply IsS75.set_1|apply IsS75.set_2|apply IsS75.set_3|apply IsS75.set_4|apply IsS75.set_5|apply IsS75.set_6|apply IsS75.set_7)|exact HI0.out), by repeat (first|(with_reducible first|exact HB.out|apply Q8|apply Q5|apply Q9|refine Q6 ?_ (IsS75.ge HI0.out))|exact HB.out), by repeat (first|(with_reducible first|exact HK.out|apply KeepBut.set_|apply keep_drewN|apply keep_drew|apply keep_alloc)|exact HK.out)⟩
 ·rw [if_neg c4] at H
  have c4b0 : (a1 == 97) = false := Qk c4
  have c4b1 : (a1 != 97) = true := Ql c4
  by_cases c8 : a1 = 98
  ·rw [if_pos c8] at H
   have c8b0 : (a1 == 98) = true := Qm c8
   have c8b1 : (a1 != 98) = false := Qh c8
   clear c8
   replace H := Qi H
   obtain ⟨⟨t138, t139, t140, t141, t142, t143, t144, t145, t146⟩, A90, H⟩ := H
   try dsimp only at H
   have A9 := Q4 A90
   clear A90
   simp only [Option.some.injEq, Prod.mk.injEq] at H
   obtain ⟨rfl, rfl, rfl, rfl, rfl, rfl, rfl, rfl⟩ := H
   go_enter Tryz.func32, Tryz.ntmps32
   go_wp2_with (first|((with_reducible refine gate_callee (f := 58) rfl ?_); refine gL (some 25) Tryz.func58 #[.pointer (some ⟨g, 0, none⟩), .string a2] ?_; (with_reducible refine (asm_reader_register.calls g s0_0 s0_1 s0_2 s0_3 s0_4 s0_5 s0_6 s0_7 a2 t138 t139 t140 t141 t142 t143 t144 t145 t146 w0 _ HTAB.out ?side1 ?side2 A9.out).mono ?_); (case side1 => repeat (first|(with_reducible first|exact HI0.out|apply IsS75.alloc|apply IsS75.drewN|apply IsS75.drew|apply IsS75.set_0|apply IsS75.set_1|apply IsS75.set_2|apply IsS75.set_3|apply IsS75.set_4|apply IsS75.set_5|apply IsS75.set_6|apply IsS75.set_7)|exact HI0.out)); (case side2 => repeat (first|(with_reducible first|exact HB.out|apply Q8|apply Q5|apply Q9|refine Q6 ?_ (IsS75.ge HI0.out))|exact HB.out)); rintro e w10 ⟨rfl, hi, hb, hk⟩; refine ⟨_, rfl, ?_⟩; have n0_ := Q4 (KeepBut.trans (by repeat (first|(with_reducible first|exact HK.out|apply KeepBut.set_|apply keep_drewN|apply keep_drew|apply keep_alloc)|exact HK.out)) hk (.inl rfl)); have n1_ := Q4 (hb); have n2_ := Q4 (hi); clear HK; clear HB; clear HI0; have HK := n0_; have HB := n1_; have HI0 := n2_; clear n0_ n1_ n2_;(try clear hb);(try clear hb2);(try clear hk);(try clear hi); obtain ⟨HGz11, hgz11⟩ := HI0.out; have hcz11_0 := cellS75_0 HGz11; have hcz11_1 := cellS75_1 HGz11; have hcz11_2 := cellS75_2 HGz11; have hcz11_3 := cellS75_3 HGz11; have hcz11_4 := cellS75_4 HGz11; have hcz11_5 := cellS75_5 HGz11; have hcz11_6 := cellS75_6 HGz11; have hcz11_7 := cellS75_7 HGz11; have hfz11_0 := Qd HGz11 0; have hfz11_1 := Qd HGz11 1; have hfz11_2 := Qd HGz11 2; have hfz11_3 := Qd HGz11 3; have hfz11_4 := Qd HGz11 4; have hfz11_5 := Qd HGz11 5; have hfz11_6 := Qd HGz11 6; have hfz11_7 := Qd HGz11 7; clear HGz11 hgz11))
   first | go_end0|((try simp only [Exit.inBlock, Exit.then]); refine bodyPost_ret (results_none rfl _ _ _) rfl ?_)
   exact ⟨by first|rfl|(simp [errW_none, errW_some] <;> rfl)|(simp [*, errW_none, errW_some] <;> rfl), by repeat (first|(with_reducible first|exact HI0.out|apply IsS75.alloc|apply IsS75.drewN|apply IsS75.drew|apply IsS75.set_0|apply IsS75.set_1|apply IsS75.set_2|apply IsS75.set_3|apply IsS75.set_4|apply IsS75.set_5|apply IsS75.set_6|apply IsS75.set_7)|exact HI0.out), by repeat (first|(with_reducible first|exact HB.out|apply Q8|apply Q5|apply Q9|refine Q6 ?_ (IsS75.ge HI0.out))|exact HB.out), by repeat (first|(with_reducible first|exact HK.out|apply KeepBut.set_|apply keep_drewN|apply keep_drew|apply keep_alloc)|exact HK.out)⟩
  ·rw [if_neg c8] at H
   have c8b0 : (a1 == 98) = false := Qk c8
   have c8b1 : (a1 != 98) = true := Ql c8
   by_cases c12 : a1 = 99
   ·rw [if_pos c12] at H
    have c12b0 : (a1 == 99) = true := Qm c12
    have c12b1 : (a1 != 99) = false := Qh c12
    clear c12
    replace H := Qi H
    obtain ⟨⟨t147, t148, t149, t150, t151, t152, t153, t154, t155⟩, A130, H⟩ := H
    try dsimp only at H
    have A13 := Q4 A130
    clear A130
    simp only [Option.some.injEq, Prod.mk.injEq] at H
    obtain ⟨rfl, rfl, rfl, rfl, rfl, rfl, rfl, rfl⟩ := H
    go_enter Tryz.func32, Tryz.ntmps32
    go_wp2_with (first|((with_reducible refine gate_callee (f := 58) rfl ?_); refine gL (some 35) Tryz.func58 #[.pointer (some ⟨g, 0, none⟩), .string a2] ?_; (with_reducible refine (asm_reader_register.calls g s0_0 s0_1 s0_2 s0_3 s0_4 s0_5 s0_6 s0_7 a2 t147 t148 t149 t150 t151 t152 t153 t154 t155 w0 _ HTAB.out ?side1 ?side2 A13.out).mono ?_); (case side1 => repeat (first|(with_reducible first|exact HI0.out|apply IsS75.alloc|apply IsS75.drewN|apply IsS75.drew|apply IsS75.set_0|apply IsS75.set_1|apply IsS75.set_2|apply IsS75.set_3|apply IsS75.set_4|apply IsS75.set_5|apply IsS75.set_6|apply IsS75.set_7)|exact HI0.out)); (case side2 => repeat (first|(with_reducible first|exact HB.out|apply Q8|apply Q5|apply Q9|refine Q6 ?_ (IsS75.ge HI0.out))|exact HB.out)); rintro e w14 ⟨rfl, hi, hb, hk⟩; refine ⟨_, rfl, ?_⟩; have n0_ := Q4 (KeepBut.trans (by repeat (first|(with_reducible first|exact HK.out|apply KeepBut.set_|apply keep_drewN|apply keep_drew|apply keep_alloc)|exact HK.out)) hk (.inl rfl)); have n1_ := Q4 (hb); have n2_ := Q4 (hi); clear HK; clear HB; clear HI0; have HK := n0_; have HB := n1_; have HI0 := n2_; clear n0_ n1_ n2_;(try clear hb);(try clear hb2);(try clear hk);(try clear hi); obtain ⟨HGz15, hgz15⟩ := HI0.out; have hcz15_0 := cellS75_0 HGz15; have hcz15_1 := cellS75_1 HGz15; have hcz15_2 := cellS75_2 HGz15; have hcz15_3 := cellS75_3 HGz15; have hcz15_4 := cellS75_4 HGz15; have hcz15_5 := cellS75_5 HGz15; have hcz15_6 := cellS75_6 HGz15; have hcz15_7 := cellS75_7 HGz15; have hfz15_0 := Qd HGz15 0; have hfz15_1 := Qd HGz15 1; have hfz15_2 := Qd HGz15 2; have hfz15_3 := Qd HGz15 3; have hfz15_4 := Qd HGz15 4; have hfz15_5 := Qd HGz15 5; have hfz15_6 := Qd HGz15 6; have hfz15_7 := Qd HGz15 7; clear HGz15 hgz15))
    first | go_end0|((try simp only [Exit.inBlock, Exit.then]); refine bodyPost_ret (results_none rfl _ _ _) rfl ?_)
    exact ⟨by first|rfl|(simp [errW_none, errW_some] <;> rfl)|(simp [*, errW_none, errW_some] <;> rfl), by repeat (first|(with_reducible first|exact HI0.out|apply IsS75.alloc|apply IsS75.drewN|apply IsS75.drew|apply IsS75.set_0|apply IsS75.set_1|apply IsS75.set_2|apply IsS75.set_3|apply IsS75.set_4|apply IsS75.set_5|apply IsS75.set_6|apply IsS75.set_7)|exact HI0.out), by repeat (first|(with_reducible first|exact HB.out|apply Q8|apply Q5|apply Q9|refine Q6 ?_ (IsS75.ge HI0.out))|exact HB.out), by repeat (first|(with_reducible first|exact HK.out|apply KeepBut.set_|apply keep_drewN|apply keep_drew|apply keep_alloc)|exact HK.out)⟩
   ·rw [if_neg c12] at H
    have c12b0 : (a1 == 99) = false := Qk c12
    have c12b1 : (a1 != 99) = true := Ql c12
    replace H := Qi H
    obtain ⟨⟨t156, t157, t158, t159, t160, t161, t162, t163⟩, A160, H⟩ := H
    try dsimp only at H
    have A16 := Q4 A160
    clear A160
    simp only [Option.some.injEq, Prod.mk.injEq] at H
    obtain ⟨rfl, rfl, rfl, rfl, rfl, rfl, rfl, rfl⟩ := H
    go_enter Tryz.func32, Tryz.ntmps32
    go_wp2_with (first|((with_reducible refine gate_callee (f := 59) rfl ?_); refine gL (some 9) Tryz.func59 #[.pointer (some ⟨g, 0, none⟩), .string a2] ?_; (with_reducible refine (asm_reader_value.calls g s0_0 s0_1 s0_2 s0_3 s0_4 s0_5 s0_6 s0_7 a2 t156 t157 t158 t159 t160 t161 t162 t163 w0 _ HTAB.out ?side1 ?side2 A16.out).mono ?_); (case side1 => repeat (first|(with_reducible first|exact HI0.out|apply IsS75.alloc|apply IsS75.drewN|apply IsS75.drew|apply IsS75.set_0|apply IsS75.set_1|apply IsS75.set_2|apply IsS75.set_3|apply IsS75.set_4|apply IsS75.set_5|apply IsS75.set_6|apply IsS75.set_7)|exact HI0.out)); (case side2 => repeat (first|(with_reducible first|exact HB.out|apply Q8|apply Q5|apply Q9|refine Q6 ?_ (IsS75.ge HI0.out))|exact HB.out)); rintro e w17 ⟨rfl, hi, hb, hk⟩; refine ⟨_, rfl, ?_⟩; have n0_ := Q4 (KeepBut.trans (by repeat (first|(with_reducible first|exact HK.out|apply KeepBut.set_|apply keep_drewN|apply keep_drew|apply keep_alloc)|exact HK.out)) hk (.inl rfl)); have n1_ := Q4 (hb); have n2_ := Q4 (hi); clear HK; clear HB; clear HI0; have HK := n0_; have HB := n1_; have HI0 := n2_; clear n0_ n1_ n2_;(try clear hb);(try clear hb2);(try clear hk);(try clear hi)))
    first | go_end0|((try simp only [Exit.inBlock, Exit.then]); refine bodyPost_ret (results_none rfl _ _ _) rfl ?_)
    exact ⟨by first|rfl|(simp [errW_none, errW_some] <;> rfl)|(simp [*, errW_none, errW_some] <;> rfl), by repeat (first|(with_reducible first|exact HI0.out|apply IsS75.alloc|apply IsS75.drewN|apply IsS75.drew|apply IsS75.set_0|apply IsS75.set_1|apply IsS75.set_2|apply IsS75.set_3|apply IsS75.set_4|apply IsS75.set_5|apply IsS75.set_6|apply IsS75.set_7)|exact HI0.out), by repeat (first|(with_reducible first|exact HB.out|apply Q8|apply Q5|apply Q9|refine Q6 ?_ (IsS75.ge HI0.out))|exact HB.out), by repeat (first|(with_reducible first|exact HK.out|apply KeepBut.set_|apply keep_drewN|apply keep_drew|apply keep_alloc)|exact HK.out)⟩

end Go.Proofs.YtbelnkdbghggmaaGreatDoor.X
