/- Walks of Go functions: each proves that the call answers what the Lean function of its name computes, wherever that is told; written by a program of this work out of the translation. -/
import Derived.Test.YtbelnkdbghggmaaGreatDoorXx0
import Derived.Test.YtbelnkdbghggmaaGreatDoorMr6
import Derived.Test.YtbelnkdbghggmaaGreatDoorMr7
import Derived.Test.YtbelnkdbghggmaaGreatDoorMr8
import Derived.Test.YtbelnkdbghggmaaGreatDoorXx9
import Derived.Test.YtbelnkdbghggmaaGreatDoorMr5
namespace Go.Proofs.YtbelnkdbghggmaaGreatDoor.X
open Go.RowKit Go.Proofs.YtbelnkdbghggmaaGreatDoorW.PrintWords Go.Proofs.YtbelnkdbghggmaaGreatDoorW.PrintLast

set_option linter.unusedVariables false
set_option linter.unusedSimpArgs false

/-! ### curtilageref10_read: function 16 -/
mutual
def curtilageref10_read.j0 : Nat → ByteArray → Bool → Option (ByteArray × Int × Int × Int × Int × Int × ByteArray × Bool)
 | 0, _, _ => none
 | k + 1, x0, x27 => if x27 = true then (if 0 ≤ (wrap64 ((x0.size : Int) - 1)) then (if (wrap64 ((x0.size : Int) - 1)) ≤ (x0.size : Int) then (if (x0.extract 0 ((wrap64 ((x0.size : Int) - 1)) : Int).toNat).toList = ([] : List UInt8) then (some (x0.extract 0 ((wrap64 ((x0.size : Int) - 1)) : Int).toNat, 0, 0, 0, 0, 0, (⟨#[]⟩ : ByteArray), false)) else ((curtilageref10_good.f k (x0.extract 0 ((wrap64 ((x0.size : Int) - 1)) : Int).toNat) 0 0 0 0 0 (⟨#[]⟩ : ByteArray)).bind fun t193 => (some (x0.extract 0 ((wrap64 ((x0.size : Int) - 1)) : Int).toNat, 0, 0, 0, 0, 0, (⟨#[]⟩ : ByteArray), t193)))) else (none)) else (none)) else ((curtilageref10_words.f k x0).bind fun t194 => (curtilageref10_read.l0 k x0 t194 0 (⟨#[]⟩ : ByteArray) 0 0 0 0 0 (⟨#[]⟩ : ByteArray)))
def curtilageref10_read.l0 : Nat → ByteArray → List ByteArray → Int → ByteArray → Int → Int → Int → Int → Int → ByteArray → Option (ByteArray × Int × Int × Int × Int × Int × ByteArray × Bool)
 | 0, _, _, _, _, _, _, _, _, _, _ => none
 | k + 1, x0, x5, x7, x198000, x198001, x198002, x198003, x198004, x198005, x198006 => if x7 < 26 then ((curtilageref08_Text.f k x7 0 0 0 0).bind fun t198 => ((curtilageref10_words.f k t198).bind fun t199 => (if 0 < (t199.length : Int) then (if 0 < (x5.length : Int) then (if (rdOf ByteArray.empty t199 0).toList = (rdOf ByteArray.empty x5 0).toList then (curtilageref10_read.l0 k x0 x5 (wrap64 (x7 + 1)) x198000 x7 x198002 x198003 x198004 x198005 x198006) else (curtilageref10_read.l0 k x0 x5 (wrap64 (x7 + 1)) x198000 x198001 x198002 x198003 x198004 x198005 x198006)) else (none)) else (none)))) else ((curtilageref08_Shape.f k x198001).bind fun t204 => (if (x5.length : Int) = (wrap64 ((t204.size : Int) + 1)) then (curtilageref10_read.l1 k x0 x5 t204 0 x198000 x198001 x198002 x198003 x198004 x198005 x198006) else (some (x198000, x198001, x198002, x198003, x198004, x198005, x198006, false))))
def curtilageref10_read.l1 : Nat → ByteArray → List ByteArray → ByteArray → Int → ByteArray → Int → Int → Int → Int → Int → ByteArray → Option (ByteArray × Int × Int × Int × Int × Int × ByteArray × Bool)
 | 0, _, _, _, _, _, _, _, _, _, _, _ => none
 | k + 1, x0, x5, x9, x10, x198000, x198001, x198002, x198003, x198004, x198005, x198006 => if x10 < (x9.size : Int) then (if 0 ≤ (wrap64 (x10 + 1)) then (if (wrap64 (x10 + 1)) < (x5.length : Int) then ((curtilageref10_register.f k (rdOf ByteArray.empty x5 (wrap64 (x10 + 1)))).bind fun t208 => (if 0 ≤ x10 then (if (bt x9 x10) = 97 then (curtilageref10_read.l1 k x0 x5 x9 (wrap64 (x10 + 1)) x198000 x198001 t208 x198003 x198004 x198005 x198006) else (if (bt x9 x10) = 98 then (curtilageref10_read.l1 k x0 x5 x9 (wrap64 (x10 + 1)) x198000 x198001 x198002 t208 x198004 x198005 x198006) else (if (bt x9 x10) = 99 then (curtilageref10_read.l1 k x0 x5 x9 (wrap64 (x10 + 1)) x198000 x198001 x198002 x198003 t208 x198005 x198006) else (if (rdOf ByteArray.empty x5 (wrap64 (x10 + 1))).toList = ([] : List UInt8) then (curtilageref10_read.j3 k x0 x5 x9 x10 (rdOf ByteArray.empty x5 (wrap64 (x10 + 1))) false x198000 x198001 x198002 x198003 x198004 x198005 x198006) else (if 0 < ((rdOf ByteArray.empty x5 (wrap64 (x10 + 1))).size : Int) then (curtilageref10_read.j3 k x0 x5 x9 x10 (rdOf ByteArray.empty x5 (wrap64 (x10 + 1))) ((bt (rdOf ByteArray.empty x5 (wrap64 (x10 + 1))) 0) == 64) x198000 x198001 x198002 x198003 x198004 x198005 x198006) else (none)))))) else (none))) else (none)) else (none)) else ((curtilageref10_good.f k x198000 x198001 x198002 x198003 x198004 x198005 x198006).bind fun t205 => (if t205 = true then ((curtilageref10_line.f k x198000 x198001 x198002 x198003 x198004 x198005 x198006).bind fun t206 => (some (x198000, x198001, x198002, x198003, x198004, x198005, x198006, (t206.toList == x0.toList)))) else (some (x198000, x198001, x198002, x198003, x198004, x198005, x198006, false))))
def curtilageref10_read.j3 : Nat → ByteArray → List ByteArray → ByteArray → Int → ByteArray → Bool → ByteArray → Int → Int → Int → Int → Int → ByteArray → Option (ByteArray × Int × Int × Int × Int × Int × ByteArray × Bool)
 | 0, _, _, _, _, _, _, _, _, _, _, _, _, _ => none
 | k + 1, x0, x5, x9, x10, x11, x122, x198000, x198001, x198002, x198003, x198004, x198005, x198006 => if x122 = true then (if 1 ≤ (x11.size : Int) then ((curtilageref10_target.f k (x11.extract 1 x11.size)).bind fun bt209 => (if bt209.2.2 = true then (if bt209.1.toList = ([] : List UInt8) then (some (x198000, x198001, x198002, x198003, x198004, bt209.2.1, bt209.1, false)) else (curtilageref10_read.l1 k x0 x5 x9 (wrap64 (x10 + 1)) x198000 x198001 x198002 x198003 x198004 bt209.2.1 bt209.1)) else (some (x198000, x198001, x198002, x198003, x198004, bt209.2.1, bt209.1, false)))) else (none)) else ((curtilageref10_number.f k x11).bind fun bt212 => (if bt212.2 = true then (curtilageref10_read.l1 k x0 x5 x9 (wrap64 (x10 + 1)) x198000 x198001 x198002 x198003 x198004 bt212.1 x198006) else (some (x198000, x198001, x198002, x198003, x198004, bt212.1, x198006, false))))
end
def curtilageref10_read.f (k : Nat) (a0 : ByteArray) : Option (ByteArray × Int × Int × Int × Int × Int × ByteArray × Bool) := if a0.toList = ([] : List UInt8) then (curtilageref10_read.j0 k a0 false) else (if 0 ≤ (wrap64 ((a0.size : Int) - 1)) then (if (wrap64 ((a0.size : Int) - 1)) < (a0.size : Int) then (curtilageref10_read.j0 k a0 ((bt a0 (wrap64 ((a0.size : Int) - 1))) == 58)) else (none)) else (none))
def curtilageref10_read.T3 : Bool × List (List Nat × List Nat) := (true, [([], []), ([], []), ([1], [1]), ([2], [2]), ([3], [3]), ([4], [4]), ([5, 4, 4], [4, 5]), ([4, 6], [4, 6]), ([0, 6, 0], [0]), ([7, 8, 0, 1, 2, 3, 4, 5, 6, 7, 8], [7])])
def curtilageref10_read.B3 : List Nat := [0, 0, 2, 6, 14, 30, 62, 126, 127, 511]
theorem curtilageref10_read.tab3 : rtab .any (opsOf Tryz.f16 3) = curtilageref10_read.T3 := by kernel_rfl
theorem curtilageref10_read.bits3 : waitsOk curtilageref10_read.T3.2 curtilageref10_read.B3 = true := by kernel_rfl
def curtilageref10_read.T36 : Bool × List (List Nat × List Nat) := (true, [([], []), ([], []), ([1], [1]), ([2, 2], [2]), ([3], [3]), ([4, 3, 3], [3, 4]), ([3], [3]), ([5, 6, 3], [3, 5, 6]), ([3, 7], [3, 7]), ([0, 5, 0], [0]), ([8, 9, 0, 1, 2, 3, 4, 5, 6, 7, 8, 9], [8])])
def curtilageref10_read.B36 : List Nat := [0, 0, 2, 6, 14, 30, 14, 126, 254, 63, 1023]
theorem curtilageref10_read.tab36 : rtab .any (opsOf Tryz.f16 36) = curtilageref10_read.T36 := by kernel_rfl
theorem curtilageref10_read.bits36 : waitsOk curtilageref10_read.T36.2 curtilageref10_read.B36 = true := by kernel_rfl
set_option maxHeartbeats 8000000 in
set_option maxRecDepth 100000 in
theorem curtilageref10_read.calls (k : Nat) (a0 : ByteArray) (r1 : ByteArray) (r2 : Int) (r3 : Int) (r4 : Int) (r5 : Int) (r6 : Int) (r7 : ByteArray) (r8 : Bool) (w : World) (h : curtilageref10_read.f k a0 = some (r1, r2, r3, r4, r5, r6, r7, r8)) :
  Calls Tryz.prog 16 #[.string a0] w fun e w' => e = .returned (.tuple #[.agg #[.string r1, .int .i64 r2, .int .i64 r3, .int .i64 r4, .int .i64 r5, .int .i32 r6, .string r7], .bool r8]) ∧ Below w.heap.size w w' := by
 have hu40 := Tryz.underlying40
 have hu38 := Tryz.underlying38
 have HB := Q4 (Below.refl w.heap.size w)
 have H := h
 unfold curtilageref10_read.f at H
 clear h
 have HC2 := Q4 H
 clear H
 go_enter Tryz.func16, Tryz.ntmps16
 go_upto_region 1 with (first|((with_reducible refine gate_dst (N := 2) rfl ?_); (try (refine gate_guard (by rfl) ?_; dsimp only)); refine box_event ?hg (N := 2) ?hd (cs := #[.string (⟨#[]⟩ : ByteArray), .int .i64 0, .int .i64 0, .int .i64 0, .int .i64 0, .int .i32 0, .string (⟨#[]⟩ : ByteArray)]) (t := 40) ?hr ?_; (case hd => rfl); (case hg => rfl); (case hr => first|(go_simp; done)|(go_simp; rfl)); intro gb191 hg w3 hbox hb; have n0_ := Q4 (Qg (by repeat (first|(with_reducible first|exact HB.out|apply Q8|apply Q5|apply Q9)|exact HB.out)) hb); have n1_ := Q4 (hbox); have n2_ := Q4 ((by rw [hg]; exact bZ : w.heap.size ≤ gb191)); have n3_ := Q4 ((by rw [hg]; exact bZ : w.heap.size ≤ gb191)); clear HB; have HB := n0_; have BK191 := n1_; have GW191 := n2_; have GE191 := n3_; clear n0_ n1_ n2_ n3_; clear hb hbox hg))
 (try simp only [Act.put, Q1,Q2,Q3])
 go_cut [27] (fun v27 wc => ∃ (kq : Nat) (x27_1 : Bool), v27 = .bool x27_1 ∧ Aside0 (curtilageref10_read.j0 kq a0 x27_1 = some (r1, r2, r3, r4, r5, r6, r7, r8)) ∧ Aside0 (kq ≤ k) ∧ Aside0 (wc.heap[gb191]? = some (.cells #[.string (⟨#[]⟩ : ByteArray), .int .i64 0, .int .i64 0, .int .i64 0, .int .i64 0, .int .i32 0, .string (⟨#[]⟩ : ByteArray)] 40 (0, 0))) ∧ Aside0 (Below w.heap.size w wc))
 case first =>
  have H := HC2.out
  clear HC2
  by_cases c4 : a0.toList = ([] : List UInt8)
  ·rw [if_pos c4] at H
   have c4b0 : (a0.toList == ([] : List UInt8)) = true := Qm c4
   have c4b1 : (a0.toList != ([] : List UInt8)) = false := Qh c4
   clear c4
   (first | rw [c4b0]|(simp only [i64_w, i32_w]; rw [c4b0])|skip)
   have H' := Q4 H
   clear H
   go_wp2
   go_meet
   case rel => exact ⟨_, (false), (by first|rfl|(simp; done)|(simp [*]; done)), H', ⟨by first|omega|exact Nat.le_refl _⟩, ⟨by (with_reducible repeat (first|refine Qa ?_ _|refine Qb ?_|refine Q7 ?_ _)); exact BK191.out⟩, ⟨by repeat (first|(with_reducible first|exact HB.out|apply Q8|apply Q5|apply Q9|refine Q6 ?_ GE191.out)|exact HB.out)⟩⟩
  ·rw [if_neg c4] at H
   have c4b0 : (a0.toList == ([] : List UInt8)) = false := Qk c4
   have c4b1 : (a0.toList != ([] : List UInt8)) = true := Ql c4
   (first | rw [c4b0]|(simp only [i64_w, i32_w]; rw [c4b0])|skip)
   obtain ⟨ji5, hji5⟩ : ∃ j_ : Int, (wrap64 ((a0.size : Int) - 1)) = j_ := ⟨_, rfl⟩
   replace H : (if 0 ≤ (ji5) then (if (ji5) < (a0.size : Int) then (curtilageref10_read.j0 k a0 ((bt a0 (ji5)) == 58)) else (none)) else (none)) = some (r1, r2, r3, r4, r5, r6, r7, r8) := by first|(rw [hji5] at H; exact H)|(simp only [hji5] at H ⊢; exact H)
   have hji5w : (IntKind.i64.wrap ((a0.size : Int) - 1)) = ji5 := (i64_w _).trans hji5
   by_cases c6 : 0 ≤ (ji5)
   ·rw [if_pos c6] at H
    have c6b0 : decide (0 ≤ (ji5)) = true := Qj c6
    clear c6
    by_cases c7 : (ji5) < (a0.size : Int)
    ·rw [if_pos c7] at H
     have c7b0 : decide ((ji5) < (a0.size : Int)) = true := Qj c7
     clear c7
     have H' := Q4 H
     clear H
     have p8 : 0 ≤ ((ji5) : Int) := Qc (by first|(with_reducible assumption)|assumption)
     have q8 : (ji5) < (a0.size : Int) := Qc (by first|(with_reducible assumption)|assumption)
     have hx8 := bt_at a0 (ji5)
     replace p8 := eq_true p8
     replace q8 := eq_true q8
     go_wp2
     go_meet
     case rel => exact ⟨_, (((bt a0 (ji5)) == 58)), (by first|rfl|(simp; done)|(simp only [← hji5] <;> (first|rfl | simp))|(simp [*]; done)), H', ⟨by first|omega|exact Nat.le_refl _⟩, ⟨by (with_reducible repeat (first|refine Qa ?_ _|refine Qb ?_|refine Q7 ?_ _)); exact BK191.out⟩, ⟨by repeat (first|(with_reducible first|exact HB.out|apply Q8|apply Q5|apply Q9|refine Q6 ?_ GE191.out)|exact HB.out)⟩⟩
    ·rw [if_neg c7] at H
     exact absurd H (by simp)
   ·rw [if_neg c6] at H
    exact absurd H (by simp)
 case rest =>
  clear HC2
  (try clear c1);(try clear p2);(try clear c4);(try clear c4b0);(try clear c4b1);(try clear c6);(try clear c6b0);(try clear p6);(try clear c7);(try clear c7b0);(try clear p8);(try clear q8);(try clear hx8);(try clear p8);(try clear q8)
  obtain ⟨kq, x27_1, rfl, HA, HJ1, BK191, HB⟩ := hcut
  cases kq with
  | zero => exact absurd HA.out (by simp [curtilageref10_read.j0])
  | succ kj1 =>
   have H := HA.out
   clear HA
   simp only [curtilageref10_read.j0] at H
   by_cases c9 : x27_1 = true
   ·subst c9
    rw [if_pos rfl] at H
    obtain ⟨ji10, hji10⟩ : ∃ j_ : Int, (wrap64 ((a0.size : Int) - 1)) = j_ := ⟨_, rfl⟩
    replace H : (if 0 ≤ (ji10) then (if (ji10) ≤ (a0.size : Int) then (if (a0.extract 0 ((ji10) : Int).toNat).toList = ([] : List UInt8) then (some (a0.extract 0 ((ji10) : Int).toNat, 0, 0, 0, 0, 0, (⟨#[]⟩ : ByteArray), false)) else ((curtilageref10_good.f kj1 (a0.extract 0 ((ji10) : Int).toNat) 0 0 0 0 0 (⟨#[]⟩ : ByteArray)).bind fun t193 => (some (a0.extract 0 ((ji10) : Int).toNat, 0, 0, 0, 0, 0, (⟨#[]⟩ : ByteArray), t193)))) else (none)) else (none)) = some (r1, r2, r3, r4, r5, r6, r7, r8) := by first|(rw [hji10] at H; exact H)|(simp only [hji10] at H ⊢; exact H)
    have hji10w : (IntKind.i64.wrap ((a0.size : Int) - 1)) = ji10 := (i64_w _).trans hji10
    by_cases c11 : 0 ≤ (ji10)
    ·rw [if_pos c11] at H
     have c11b0 := eq_true c11
     have c11b1 : decide (0 ≤ (ji10)) = true := Qj c11
     clear c11
     by_cases c12 : (ji10) ≤ (a0.size : Int)
     ·rw [if_pos c12] at H
      have c12b0 := eq_true c12
      have c12b1 : decide ((ji10) ≤ (a0.size : Int)) = true := Qj c12
      clear c12
      by_cases c13 : (a0.extract 0 ((ji10) : Int).toNat).toList = ([] : List UInt8)
      ·rw [if_pos c13] at H
       have c13b0 : ((a0.extract 0 ((ji10) : Int).toNat).toList == ([] : List UInt8)) = true := Qm c13
       have c13b1 : ((a0.extract 0 ((ji10) : Int).toNat).toList != ([] : List UInt8)) = false := Qh c13
       clear c13
       simp only [Option.some.injEq, Prod.mk.injEq] at H
       obtain ⟨rfl, rfl, rfl, rfl, rfl, rfl, rfl, rfl⟩ := H
       try go_wp2_with (first|((with_reducible refine gate_dst (N := 4) rfl ?_); (try (refine gate_guard (by rfl) ?_; dsimp only)); refine box_event ?hg (N := 4) ?hd (cs := #[.string (⟨#[]⟩ : ByteArray), .int .i64 0, .int .i64 0, .int .i64 0, .int .i64 0, .int .i32 0, .string (⟨#[]⟩ : ByteArray)]) (t := 40) ?hr ?_; (case hd => rfl); (case hg => rfl); (case hr => first|(go_simp; done)|(go_simp; rfl)); intro gb192 hg w14 hbox hb; have n0_ := Q4 (Qo (g := gb191) (o := .cells #[.string (⟨#[]⟩ : ByteArray), .int .i64 0, .int .i64 0, .int .i64 0, .int .i64 0, .int .i32 0, .string (⟨#[]⟩ : ByteArray)] 40 (0, 0)) (bK BK191) hb); have n1_ := Q4 (Qg (by repeat (first|(with_reducible first|exact HB.out|apply Q8|apply Q5|apply Q9|refine Q6 ?_ GE191.out)|exact HB.out)) hb); have n2_ := Q4 (hbox); have n3_ := Q4 ((by rw [hg]; exact (below_size (by repeat (first|(with_reducible first|exact HB.out|apply Q8|apply Q5|apply Q9|refine Q6 ?_ GE191.out)|exact HB.out))) : w.heap.size ≤ gb192)); have n4_ := Q4 ((by rw [hg]; exact (below_size (by repeat (first|(with_reducible first|exact HB.out|apply Q8|apply Q5|apply Q9|refine Q6 ?_ GE191.out)|exact HB.out))) : w.heap.size ≤ gb192)); have n5_ := Q4 ((by rw [hg]; exact Nat.ne_of_lt (blk_lt (g := gb191) (o := .cells #[.string (⟨#[]⟩ : ByteArray), .int .i64 0, .int .i64 0, .int .i64 0, .int .i64 0, .int .i32 0, .string (⟨#[]⟩ : ByteArray)] 40 (0, 0)) (bK BK191)) : gb191 ≠ gb192)); have n6_ := Q4 ((by rw [hg]; exact Nat.ne_of_gt (blk_lt (g := gb191) (o := .cells #[.string (⟨#[]⟩ : ByteArray), .int .i64 0, .int .i64 0, .int .i64 0, .int .i64 0, .int .i32 0, .string (⟨#[]⟩ : ByteArray)] 40 (0, 0)) (bK BK191)) : gb192 ≠ gb191)); clear BK191; clear HB; have BK191 := n0_; have HB := n1_; have BK192 := n2_; have GW192 := n3_; have GE192 := n4_; have NB191_192 := n5_; have NB192_191 := n6_; clear n0_ n1_ n2_ n3_ n4_ n5_ n6_; clear hb hbox hg; have hnb15 := NB192_191.out; have hnc15 := NB191_192.out; have hcz16_0 : w14.cell? ⟨gb192, 0, none⟩ = some (.string (⟨#[]⟩ : ByteArray)) := (Qe BK192.out 0).trans rfl; have hcz16_1 : w14.cell? ⟨gb192, 1, none⟩ = some (.int .i64 0) := (Qe BK192.out 1).trans rfl; have hcz16_2 : w14.cell? ⟨gb192, 2, none⟩ = some (.int .i64 0) := (Qe BK192.out 2).trans rfl; have hcz16_3 : w14.cell? ⟨gb192, 3, none⟩ = some (.int .i64 0) := (Qe BK192.out 3).trans rfl; have hcz16_4 : w14.cell? ⟨gb192, 4, none⟩ = some (.int .i64 0) := (Qe BK192.out 4).trans rfl; have hcz16_5 : w14.cell? ⟨gb192, 5, none⟩ = some (.int .i32 0) := (Qe BK192.out 5).trans rfl; have hcz16_6 : w14.cell? ⟨gb192, 6, none⟩ = some (.string (⟨#[]⟩ : ByteArray)) := (Qe BK192.out 6).trans rfl; have hfz16_0 := Qd BK192.out 0; have hfz16_1 := Qd BK192.out 1; have hfz16_2 := Qd BK192.out 2; have hfz16_3 := Qd BK192.out 3; have hfz16_4 := Qd BK192.out 4; have hfz16_5 := Qd BK192.out 5; have hfz16_6 := Qd BK192.out 6))
       have n0_ : Aside0 ((((((((w14.setCell ⟨gb192, 0, none⟩ (.string (a0.extract 0 ((ji10) : Int).toNat))).setCell ⟨gb192, 1, none⟩ (.int .i64 0)).setCell ⟨gb192, 2, none⟩ (.int .i64 0)).setCell ⟨gb192, 3, none⟩ (.int .i64 0)).setCell ⟨gb192, 4, none⟩ (.int .i64 0)).setCell ⟨gb192, 5, none⟩ (.int .i32 0)).setCell ⟨gb192, 6, none⟩ (.string (⟨#[]⟩ : ByteArray))).heap[gb191]? = some (.cells #[.string (⟨#[]⟩ : ByteArray), .int .i64 0, .int .i64 0, .int .i64 0, .int .i64 0, .int .i32 0, .string (⟨#[]⟩ : ByteArray)] 40 (0, 0))) := ⟨by (with_reducible repeat (first|refine Qa ?_ _|refine Qb ?_|refine Q7 ?_ _)); refine blk_far ?_ NB191_192.out _; (with_reducible repeat (first|refine Qa ?_ _|refine Qb ?_|refine Q7 ?_ _)); refine blk_far ?_ NB191_192.out _; (with_reducible repeat (first|refine Qa ?_ _|refine Qb ?_|refine Q7 ?_ _)); refine blk_far ?_ NB191_192.out _; (with_reducible repeat (first|refine Qa ?_ _|refine Qb ?_|refine Q7 ?_ _)); refine blk_far ?_ NB191_192.out _; (with_reducible repeat (first|refine Qa ?_ _|refine Qb ?_|refine Q7 ?_ _)); refine blk_far ?_ NB191_192.out _; (with_reducible repeat (first|refine Qa ?_ _|refine Qb ?_|refine Q7 ?_ _)); refine blk_far ?_ NB191_192.out _; (with_reducible repeat (first|refine Qa ?_ _|refine Qb ?_|refine Q7 ?_ _)); refine blk_far ?_ NB191_192.out _; (with_reducible repeat (first|refine Qa ?_ _|refine Qb ?_|refine Q7 ?_ _)); exact BK191.out⟩
       have n1_ : Aside0 ((((((((w14.setCell ⟨gb192, 0, none⟩ (.string (a0.extract 0 ((ji10) : Int).toNat))).setCell ⟨gb192, 1, none⟩ (.int .i64 0)).setCell ⟨gb192, 2, none⟩ (.int .i64 0)).setCell ⟨gb192, 3, none⟩ (.int .i64 0)).setCell ⟨gb192, 4, none⟩ (.int .i64 0)).setCell ⟨gb192, 5, none⟩ (.int .i32 0)).setCell ⟨gb192, 6, none⟩ (.string (⟨#[]⟩ : ByteArray))).heap[gb192]? = some (.cells #[.string (a0.extract 0 ((ji10) : Int).toNat), .int .i64 0, .int .i64 0, .int .i64 0, .int .i64 0, .int .i32 0, .string (⟨#[]⟩ : ByteArray)] 40 (0, 0))) := ⟨by (with_reducible repeat (first|refine Qa ?_ _|refine Qb ?_|refine Q7 ?_ _)); refine blk_put (cs := #[.string (a0.extract 0 ((ji10) : Int).toNat), .int .i64 0, .int .i64 0, .int .i64 0, .int .i64 0, .int .i32 0, .string (⟨#[]⟩ : ByteArray)]) ?_ 6 _ rfl; (with_reducible repeat (first|refine Qa ?_ _|refine Qb ?_|refine Q7 ?_ _)); refine blk_put (cs := #[.string (a0.extract 0 ((ji10) : Int).toNat), .int .i64 0, .int .i64 0, .int .i64 0, .int .i64 0, .int .i32 0, .string (⟨#[]⟩ : ByteArray)]) ?_ 5 _ rfl; (with_reducible repeat (first|refine Qa ?_ _|refine Qb ?_|refine Q7 ?_ _)); refine blk_put (cs := #[.string (a0.extract 0 ((ji10) : Int).toNat), .int .i64 0, .int .i64 0, .int .i64 0, .int .i64 0, .int .i32 0, .string (⟨#[]⟩ : ByteArray)]) ?_ 4 _ rfl; (with_reducible repeat (first|refine Qa ?_ _|refine Qb ?_|refine Q7 ?_ _)); refine blk_put (cs := #[.string (a0.extract 0 ((ji10) : Int).toNat), .int .i64 0, .int .i64 0, .int .i64 0, .int .i64 0, .int .i32 0, .string (⟨#[]⟩ : ByteArray)]) ?_ 3 _ rfl; (with_reducible repeat (first|refine Qa ?_ _|refine Qb ?_|refine Q7 ?_ _)); refine blk_put (cs := #[.string (a0.extract 0 ((ji10) : Int).toNat), .int .i64 0, .int .i64 0, .int .i64 0, .int .i64 0, .int .i32 0, .string (⟨#[]⟩ : ByteArray)]) ?_ 2 _ rfl; (with_reducible repeat (first|refine Qa ?_ _|refine Qb ?_|refine Q7 ?_ _)); refine blk_put (cs := #[.string (a0.extract 0 ((ji10) : Int).toNat), .int .i64 0, .int .i64 0, .int .i64 0, .int .i64 0, .int .i32 0, .string (⟨#[]⟩ : ByteArray)]) ?_ 1 _ rfl; (with_reducible repeat (first|refine Qa ?_ _|refine Qb ?_|refine Q7 ?_ _)); refine blk_put (cs := #[.string (⟨#[]⟩ : ByteArray), .int .i64 0, .int .i64 0, .int .i64 0, .int .i64 0, .int .i32 0, .string (⟨#[]⟩ : ByteArray)]) ?_ 0 _ rfl; (with_reducible repeat (first|refine Qa ?_ _|refine Qb ?_|refine Q7 ?_ _)); exact BK192.out⟩
       have n2_ : Aside0 (Below w.heap.size w (((((((w14.setCell ⟨gb192, 0, none⟩ (.string (a0.extract 0 ((ji10) : Int).toNat))).setCell ⟨gb192, 1, none⟩ (.int .i64 0)).setCell ⟨gb192, 2, none⟩ (.int .i64 0)).setCell ⟨gb192, 3, none⟩ (.int .i64 0)).setCell ⟨gb192, 4, none⟩ (.int .i64 0)).setCell ⟨gb192, 5, none⟩ (.int .i32 0)).setCell ⟨gb192, 6, none⟩ (.string (⟨#[]⟩ : ByteArray)))) := ⟨by repeat (first|(with_reducible first|exact HB.out|apply Q8|apply Q5|apply Q9|refine Q6 ?_ GE191.out|refine Q6 ?_ GE192.out)|exact HB.out)⟩
       (try clear BK191)
       (try clear BK192)
       (try clear HB)
       generalize (((((((w14.setCell ⟨gb192, 0, none⟩ (.string (a0.extract 0 ((ji10) : Int).toNat))).setCell ⟨gb192, 1, none⟩ (.int .i64 0)).setCell ⟨gb192, 2, none⟩ (.int .i64 0)).setCell ⟨gb192, 3, none⟩ (.int .i64 0)).setCell ⟨gb192, 4, none⟩ (.int .i64 0)).setCell ⟨gb192, 5, none⟩ (.int .i32 0)).setCell ⟨gb192, 6, none⟩ (.string (⟨#[]⟩ : ByteArray))) = w17 at n0_ n1_ n2_ ⊢
       have BK191 := n0_
       have BK192 := n1_
       have HB := n2_
       clear n0_ n1_ n2_
       have n0_ := Q4 (Qb BK191.out)
       have n1_ := Q4 (Qb BK192.out)
       have n2_ := Q4 (Q9 HB.out)
       clear BK191
       clear BK192
       clear HB
       have BK191 := n0_
       have BK192 := n1_
       have HB := n2_
       clear n0_ n1_ n2_
       refine start_ (n := 10) (S := fun w' => w'.cell? ⟨gb192, 0, none⟩ = some (.string (a0.extract 0 ((ji10) : Int).toNat)) ∧ w'.cell? ⟨gb192, 1, none⟩ = some (.int .i64 0) ∧ w'.cell? ⟨gb192, 2, none⟩ = some (.int .i64 0) ∧ w'.cell? ⟨gb192, 3, none⟩ = some (.int .i64 0) ∧ w'.cell? ⟨gb192, 4, none⟩ = some (.int .i64 0) ∧ w'.cell? ⟨gb192, 5, none⟩ = some (.int .i32 0) ∧ w'.cell? ⟨gb192, 6, none⟩ = some (.string (⟨#[]⟩ : ByteArray))) (ds := []) (pm 10 0) (by kernel_rfl) rfl rfl ⟨(Qe BK192.out 0).trans rfl, (Qe BK192.out 1).trans rfl, (Qe BK192.out 2).trans rfl, (Qe BK192.out 3).trans rfl, (Qe BK192.out 4).trans rfl, (Qe BK192.out 5).trans rfl, (Qe BK192.out 6).trans rfl⟩ (fun hHeld => ?_); refine with_tabW curtilageref10_read.tab3 curtilageref10_read.bits3 (fun HT_ HW_ => ?_)
       generalize w17.drew = w18 at BK191 BK192 HB hHeld ⊢
       refine pure_ (i := 1) (N := some 35) (v := ?_) (a' := ?_) #[false,true,false,false,false,false,false,false,false,false] rfl rfl (Qp HT_.out (by kernel_rfl)) (fun _ _ _ h => h) (Or.inl ⟨by rfl, ?_⟩) ?_ ?_
       rotate_left
       ·intro w'
        go_simp
        with_reducible rfl
       rotate_left
       ·simp only [Act.put, Q1,Q2,Q3, i64_w, i32_w]
        rfl
       refine take_ (i := 0) (N := some 34) (v := ?_) (a' := ?_) (pm 10 2) rfl rfl (take_ofW HT_.out HW_.out (by kernel_rfl)) (fun _ _ _ h => h) (Or.inl ⟨by rfl, ?_⟩) hHeld ?_ ?_
       rotate_left
       ·rintro w' ⟨s0, s1, s2, s3, s4, s5, s6⟩
        go_simp
        with_reducible rfl
       rotate_left
       ·simp only [Act.put, Q1,Q2,Q3, i64_w, i32_w]
        rfl
       refine take_ (i := 2) (N := some 36) (v := ?_) (a' := ?_) (pm 10 3) rfl rfl (take_ofW HT_.out HW_.out (by kernel_rfl)) (fun _ _ _ h => h) (Or.inl ⟨by rfl, ?_⟩) hHeld ?_ ?_
       rotate_left
       ·rintro w' ⟨s0, s1, s2, s3, s4, s5, s6⟩
        go_simp
        with_reducible rfl
       rotate_left
       ·simp only [Act.put, Q1,Q2,Q3, i64_w, i32_w]
        rfl
       refine pure_ (i := 3) (N := some 37) (v := ?_) (a' := ?_) (pm 10 4) rfl rfl (Qp HT_.out (by kernel_rfl)) (fun _ _ _ h => h) (Or.inl ⟨by rfl, ?_⟩) ?_ ?_
       rotate_left
       ·intro w'
        go_simp
        with_reducible rfl
       rotate_left
       ·simp only [Act.put, Q1,Q2,Q3, i64_w, i32_w]
        rfl
       refine pure_ (i := 4) (N := some 38) (v := ?_) (a' := ?_) (pm 10 5) rfl rfl (Qp HT_.out (by kernel_rfl)) (fun _ _ _ h => h) (Or.inl ⟨by rfl, ?_⟩) ?_ ?_
       rotate_left
       ·intro w'
        go_simp
        with_reducible rfl
       rotate_left
       ·simp only [Act.put, Q1,Q2,Q3, i64_w, i32_w]
        rfl
       refine pure_ (i := 5) (N := some 39) (v := undef) (a' := ?_) (pm 10 6) rfl rfl (Qp HT_.out (by kernel_rfl)) (fun _ _ _ h => h) (Or.inr ⟨by rfl, rfl⟩) ?_ ?_
       rotate_left
       ·simp only [Act.put, Q1,Q2,Q3, i64_w, i32_w]
        rfl
       refine pure_ (i := 6) (N := some 40) (v := undef) (a' := ?_) (pm 10 7) rfl rfl (Qp HT_.out (by kernel_rfl)) (fun _ _ _ h => h) (Or.inr ⟨by rfl, rfl⟩) ?_ ?_
       rotate_left
       ·simp only [Act.put, Q1,Q2,Q3, i64_w, i32_w]
        rfl
       refine pure_ (i := 7) (N := some 41) (v := ?_) (a' := ?_) (pm 10 8) rfl rfl (Qp HT_.out (by kernel_rfl)) (fun _ _ _ h => h) (Or.inl ⟨by rfl, ?_⟩) ?_ ?_
       rotate_left
       ·intro w'
        go_simp
        with_reducible rfl
       rotate_left
       ·simp only [Act.put, Q1,Q2,Q3, i64_w, i32_w]
        rfl
       refine one_ (i := 8) (N := none) (pm 10 9) rfl rfl (one_of HT_.out (by kernel_rfl)) (by decide) (fun K hK => ?_)
       have hs19 : w18.cell? ⟨gb191, 0, none⟩ = some (.string (⟨#[]⟩ : ByteArray)) := (Qe BK191.out 0).trans rfl
       have hfs19 := Qd BK191.out 0
       have hns19_1 := NB192_191.out
       have hms19_1 := NB191_192.out
       have hs20 : w18.cell? ⟨gb191, 1, none⟩ = some (.int .i64 0) := (Qe BK191.out 1).trans rfl
       have hfs20 := Qd BK191.out 1
       have hns20_1 := NB192_191.out
       have hms20_1 := NB191_192.out
       have hs21 : w18.cell? ⟨gb191, 2, none⟩ = some (.int .i64 0) := (Qe BK191.out 2).trans rfl
       have hfs21 := Qd BK191.out 2
       have hns21_1 := NB192_191.out
       have hms21_1 := NB191_192.out
       have hs22 : w18.cell? ⟨gb191, 3, none⟩ = some (.int .i64 0) := (Qe BK191.out 3).trans rfl
       have hfs22 := Qd BK191.out 3
       have hns22_1 := NB192_191.out
       have hms22_1 := NB191_192.out
       have hs23 : w18.cell? ⟨gb191, 4, none⟩ = some (.int .i64 0) := (Qe BK191.out 4).trans rfl
       have hfs23 := Qd BK191.out 4
       have hns23_1 := NB192_191.out
       have hms23_1 := NB191_192.out
       have hs24 : w18.cell? ⟨gb191, 5, none⟩ = some (.int .i32 0) := (Qe BK191.out 5).trans rfl
       have hfs24 := Qd BK191.out 5
       have hns24_1 := NB192_191.out
       have hms24_1 := NB191_192.out
       have hs25 : w18.cell? ⟨gb191, 6, none⟩ = some (.string (⟨#[]⟩ : ByteArray)) := (Qe BK191.out 6).trans rfl
       have hfs25 := Qd BK191.out 6
       have hns25_1 := NB192_191.out
       have hms25_1 := NB191_192.out
       refine skip_ (w1 := ?_) (by rfl) rfl ?_ ?_
       rotate_left
       ·go_simp
        rfl
       refine hK.out _ _ ⟨((Qf (p := ⟨gb191, _, none⟩) NB192_191.out _).trans (((Qf (p := ⟨gb191, _, none⟩) NB192_191.out _).trans (((Qf (p := ⟨gb191, _, none⟩) NB192_191.out _).trans (((Qf (p := ⟨gb191, _, none⟩) NB192_191.out _).trans (((Qf (p := ⟨gb191, _, none⟩) NB192_191.out _).trans (((Qf (p := ⟨gb191, _, none⟩) NB192_191.out _).trans (((Qf (p := ⟨gb191, _, none⟩) NB192_191.out _).trans (hHeld.1)))))))))))))), ((Qf (p := ⟨gb191, _, none⟩) NB192_191.out _).trans (((Qf (p := ⟨gb191, _, none⟩) NB192_191.out _).trans (((Qf (p := ⟨gb191, _, none⟩) NB192_191.out _).trans (((Qf (p := ⟨gb191, _, none⟩) NB192_191.out _).trans (((Qf (p := ⟨gb191, _, none⟩) NB192_191.out _).trans (((Qf (p := ⟨gb191, _, none⟩) NB192_191.out _).trans (((Qf (p := ⟨gb191, _, none⟩) NB192_191.out _).trans (hHeld.2.1)))))))))))))), ((Qf (p := ⟨gb191, _, none⟩) NB192_191.out _).trans (((Qf (p := ⟨gb191, _, none⟩) NB192_191.out _).trans (((Qf (p := ⟨gb191, _, none⟩) NB192_191.out _).trans (((Qf (p := ⟨gb191, _, none⟩) NB192_191.out _).trans (((Qf (p := ⟨gb191, _, none⟩) NB192_191.out _).trans (((Qf (p := ⟨gb191, _, none⟩) NB192_191.out _).trans (((Qf (p := ⟨gb191, _, none⟩) NB192_191.out _).trans (hHeld.2.2.1)))))))))))))), ((Qf (p := ⟨gb191, _, none⟩) NB192_191.out _).trans (((Qf (p := ⟨gb191, _, none⟩) NB192_191.out _).trans (((Qf (p := ⟨gb191, _, none⟩) NB192_191.out _).trans (((Qf (p := ⟨gb191, _, none⟩) NB192_191.out _).trans (((Qf (p := ⟨gb191, _, none⟩) NB192_191.out _).trans (((Qf (p := ⟨gb191, _, none⟩) NB192_191.out _).trans (((Qf (p := ⟨gb191, _, none⟩) NB192_191.out _).trans (hHeld.2.2.2.1)))))))))))))), ((Qf (p := ⟨gb191, _, none⟩) NB192_191.out _).trans (((Qf (p := ⟨gb191, _, none⟩) NB192_191.out _).trans (((Qf (p := ⟨gb191, _, none⟩) NB192_191.out _).trans (((Qf (p := ⟨gb191, _, none⟩) NB192_191.out _).trans (((Qf (p := ⟨gb191, _, none⟩) NB192_191.out _).trans (((Qf (p := ⟨gb191, _, none⟩) NB192_191.out _).trans (((Qf (p := ⟨gb191, _, none⟩) NB192_191.out _).trans (hHeld.2.2.2.2.1)))))))))))))), ((Qf (p := ⟨gb191, _, none⟩) NB192_191.out _).trans (((Qf (p := ⟨gb191, _, none⟩) NB192_191.out _).trans (((Qf (p := ⟨gb191, _, none⟩) NB192_191.out _).trans (((Qf (p := ⟨gb191, _, none⟩) NB192_191.out _).trans (((Qf (p := ⟨gb191, _, none⟩) NB192_191.out _).trans (((Qf (p := ⟨gb191, _, none⟩) NB192_191.out _).trans (((Qf (p := ⟨gb191, _, none⟩) NB192_191.out _).trans (hHeld.2.2.2.2.2.1)))))))))))))), ((Qf (p := ⟨gb191, _, none⟩) NB192_191.out _).trans (((Qf (p := ⟨gb191, _, none⟩) NB192_191.out _).trans (((Qf (p := ⟨gb191, _, none⟩) NB192_191.out _).trans (((Qf (p := ⟨gb191, _, none⟩) NB192_191.out _).trans (((Qf (p := ⟨gb191, _, none⟩) NB192_191.out _).trans (((Qf (p := ⟨gb191, _, none⟩) NB192_191.out _).trans (((Qf (p := ⟨gb191, _, none⟩) NB192_191.out _).trans (hHeld.2.2.2.2.2.2))))))))))))))⟩ (fun hHeld => ?_)
       clear hK K
       refine pure_ (i := 9) (N := some 3) (v := ?_) (a' := ?_) (pm 10 10) rfl rfl (Qp HT_.out (by kernel_rfl)) (fun _ _ _ h => h) (Or.inl ⟨by rfl, ?_⟩) ?_ ?_
       rotate_left
       ·intro w'
        go_simp
        with_reducible rfl
       rotate_left
       ·simp only [Act.put, Q1,Q2,Q3, i64_w, i32_w]
        rfl
       refine done_ (done_of HT_.out (by kernel_rfl)) ?_
       try go_wp2
       refine bodyPost_ret (results_ct rfl _ _ gb191 40 #[.string (a0.extract 0 ((ji10) : Int).toNat), .int .i64 0, .int .i64 0, .int .i64 0, .int .i64 0, .int .i32 0, .string (⟨#[]⟩ : ByteArray)] (0, 0) _ rfl (by (with_reducible repeat (first|refine Qa ?_ _|refine Qb ?_|refine Q7 ?_ _)); refine blk_put (cs := #[.string (a0.extract 0 ((ji10) : Int).toNat), .int .i64 0, .int .i64 0, .int .i64 0, .int .i64 0, .int .i32 0, .string (⟨#[]⟩ : ByteArray)]) ?_ 6 _ rfl; (with_reducible repeat (first|refine Qa ?_ _|refine Qb ?_|refine Q7 ?_ _)); refine blk_put (cs := #[.string (a0.extract 0 ((ji10) : Int).toNat), .int .i64 0, .int .i64 0, .int .i64 0, .int .i64 0, .int .i32 0, .string (⟨#[]⟩ : ByteArray)]) ?_ 5 _ rfl; (with_reducible repeat (first|refine Qa ?_ _|refine Qb ?_|refine Q7 ?_ _)); refine blk_put (cs := #[.string (a0.extract 0 ((ji10) : Int).toNat), .int .i64 0, .int .i64 0, .int .i64 0, .int .i64 0, .int .i32 0, .string (⟨#[]⟩ : ByteArray)]) ?_ 4 _ rfl; (with_reducible repeat (first|refine Qa ?_ _|refine Qb ?_|refine Q7 ?_ _)); refine blk_put (cs := #[.string (a0.extract 0 ((ji10) : Int).toNat), .int .i64 0, .int .i64 0, .int .i64 0, .int .i64 0, .int .i32 0, .string (⟨#[]⟩ : ByteArray)]) ?_ 3 _ rfl; (with_reducible repeat (first|refine Qa ?_ _|refine Qb ?_|refine Q7 ?_ _)); refine blk_put (cs := #[.string (a0.extract 0 ((ji10) : Int).toNat), .int .i64 0, .int .i64 0, .int .i64 0, .int .i64 0, .int .i32 0, .string (⟨#[]⟩ : ByteArray)]) ?_ 2 _ rfl; (with_reducible repeat (first|refine Qa ?_ _|refine Qb ?_|refine Q7 ?_ _)); refine blk_put (cs := #[.string (a0.extract 0 ((ji10) : Int).toNat), .int .i64 0, .int .i64 0, .int .i64 0, .int .i64 0, .int .i32 0, .string (⟨#[]⟩ : ByteArray)]) ?_ 1 _ rfl; (with_reducible repeat (first|refine Qa ?_ _|refine Qb ?_|refine Q7 ?_ _)); refine blk_put (cs := #[.string (⟨#[]⟩ : ByteArray), .int .i64 0, .int .i64 0, .int .i64 0, .int .i64 0, .int .i32 0, .string (⟨#[]⟩ : ByteArray)]) ?_ 0 _ rfl; (with_reducible repeat (first|refine Qa ?_ _|refine Qb ?_|refine Q7 ?_ _)); exact BK191.out) Tryz.underlying40 rfl (by kernel_rfl)) rfl ?_
       exact ⟨by first|rfl|(simp [errW_none, errW_some] <;> rfl)|(simp only [← hji10]; first|rfl|(simp [errW_none, errW_some] <;> rfl))|(simp [*, errW_none, errW_some] <;> rfl), by repeat (first|(with_reducible first|exact HB.out|apply Q8|apply Q5|apply Q9|refine Q6 ?_ GE191.out|refine Q6 ?_ GE192.out)|exact HB.out)⟩
      ·rw [if_neg c13] at H
       have c13b0 : ((a0.extract 0 ((ji10) : Int).toNat).toList == ([] : List UInt8)) = false := Qk c13
       have c13b1 : ((a0.extract 0 ((ji10) : Int).toNat).toList != ([] : List UInt8)) = true := Ql c13
       replace H := Qi H
       obtain ⟨t193, A260, H⟩ := H
       try dsimp only at H
       have A26 := Q4 A260
       clear A260
       simp only [Option.some.injEq, Prod.mk.injEq] at H
       obtain ⟨rfl, rfl, rfl, rfl, rfl, rfl, rfl, rfl⟩ := H
       try go_wp2_with (first|((with_reducible refine gate_dst (N := 4) rfl ?_); (try (refine gate_guard (by rfl) ?_; dsimp only)); refine box_event ?hg (N := 4) ?hd (cs := #[.string (⟨#[]⟩ : ByteArray), .int .i64 0, .int .i64 0, .int .i64 0, .int .i64 0, .int .i32 0, .string (⟨#[]⟩ : ByteArray)]) (t := 40) ?hr ?_; (case hd => rfl); (case hg => rfl); (case hr => first|(go_simp; done)|(go_simp; rfl)); intro gb192 hg w27 hbox hb; have n0_ := Q4 (Qo (g := gb191) (o := .cells #[.string (⟨#[]⟩ : ByteArray), .int .i64 0, .int .i64 0, .int .i64 0, .int .i64 0, .int .i32 0, .string (⟨#[]⟩ : ByteArray)] 40 (0, 0)) (bK BK191) hb); have n1_ := Q4 (Qg (by repeat (first|(with_reducible first|exact HB.out|apply Q8|apply Q5|apply Q9|refine Q6 ?_ GE191.out)|exact HB.out)) hb); have n2_ := Q4 (hbox); have n3_ := Q4 ((by rw [hg]; exact (below_size (by repeat (first|(with_reducible first|exact HB.out|apply Q8|apply Q5|apply Q9|refine Q6 ?_ GE191.out)|exact HB.out))) : w.heap.size ≤ gb192)); have n4_ := Q4 ((by rw [hg]; exact (below_size (by repeat (first|(with_reducible first|exact HB.out|apply Q8|apply Q5|apply Q9|refine Q6 ?_ GE191.out)|exact HB.out))) : w.heap.size ≤ gb192)); have n5_ := Q4 ((by rw [hg]; exact Nat.ne_of_lt (blk_lt (g := gb191) (o := .cells #[.string (⟨#[]⟩ : ByteArray), .int .i64 0, .int .i64 0, .int .i64 0, .int .i64 0, .int .i32 0, .string (⟨#[]⟩ : ByteArray)] 40 (0, 0)) (bK BK191)) : gb191 ≠ gb192)); have n6_ := Q4 ((by rw [hg]; exact Nat.ne_of_gt (blk_lt (g := gb191) (o := .cells #[.string (⟨#[]⟩ : ByteArray), .int .i64 0, .int .i64 0, .int .i64 0, .int .i64 0, .int .i32 0, .string (⟨#[]⟩ : ByteArray)] 40 (0, 0)) (bK BK191)) : gb192 ≠ gb191)); clear BK191; clear HB; have BK191 := n0_; have HB := n1_; have BK192 := n2_; have GW192 := n3_; have GE192 := n4_; have NB191_192 := n5_; have NB192_191 := n6_; clear n0_ n1_ n2_ n3_ n4_ n5_ n6_; clear hb hbox hg; have hnb28 := NB192_191.out; have hnc28 := NB191_192.out; have hcz29_0 : w27.cell? ⟨gb192, 0, none⟩ = some (.string (⟨#[]⟩ : ByteArray)) := (Qe BK192.out 0).trans rfl; have hcz29_1 : w27.cell? ⟨gb192, 1, none⟩ = some (.int .i64 0) := (Qe BK192.out 1).trans rfl; have hcz29_2 : w27.cell? ⟨gb192, 2, none⟩ = some (.int .i64 0) := (Qe BK192.out 2).trans rfl; have hcz29_3 : w27.cell? ⟨gb192, 3, none⟩ = some (.int .i64 0) := (Qe BK192.out 3).trans rfl; have hcz29_4 : w27.cell? ⟨gb192, 4, none⟩ = some (.int .i64 0) := (Qe BK192.out 4).trans rfl; have hcz29_5 : w27.cell? ⟨gb192, 5, none⟩ = some (.int .i32 0) := (Qe BK192.out 5).trans rfl; have hcz29_6 : w27.cell? ⟨gb192, 6, none⟩ = some (.string (⟨#[]⟩ : ByteArray)) := (Qe BK192.out 6).trans rfl; have hfz29_0 := Qd BK192.out 0; have hfz29_1 := Qd BK192.out 1; have hfz29_2 := Qd BK192.out 2; have hfz29_3 := Qd BK192.out 3; have hfz29_4 := Qd BK192.out 4; have hfz29_5 := Qd BK192.out 5; have hfz29_6 := Qd BK192.out 6))
       have n0_ : Aside0 ((((((((w27.setCell ⟨gb192, 0, none⟩ (.string (a0.extract 0 ((ji10) : Int).toNat))).setCell ⟨gb192, 1, none⟩ (.int .i64 0)).setCell ⟨gb192, 2, none⟩ (.int .i64 0)).setCell ⟨gb192, 3, none⟩ (.int .i64 0)).setCell ⟨gb192, 4, none⟩ (.int .i64 0)).setCell ⟨gb192, 5, none⟩ (.int .i32 0)).setCell ⟨gb192, 6, none⟩ (.string (⟨#[]⟩ : ByteArray))).heap[gb191]? = some (.cells #[.string (⟨#[]⟩ : ByteArray), .int .i64 0, .int .i64 0, .int .i64 0, .int .i64 0, .int .i32 0, .string (⟨#[]⟩ : ByteArray)] 40 (0, 0))) := ⟨by (with_reducible repeat (first|refine Qa ?_ _|refine Qb ?_|refine Q7 ?_ _)); refine blk_far ?_ NB191_192.out _; (with_reducible repeat (first|refine Qa ?_ _|refine Qb ?_|refine Q7 ?_ _)); refine blk_far ?_ NB191_192.out _; (with_reducible repeat (first|refine Qa ?_ _|refine Qb ?_|refine Q7 ?_ _)); refine blk_far ?_ NB191_192.out _; (with_reducible repeat (first|refine Qa ?_ _|refine Qb ?_|refine Q7 ?_ _)); refine blk_far ?_ NB191_192.out _; (with_reducible repeat (first|refine Qa ?_ _|refine Qb ?_|refine Q7 ?_ _)); refine blk_far ?_ NB191_192.out _; (with_reducible repeat (first|refine Qa ?_ _|refine Qb ?_|refine Q7 ?_ _)); refine blk_far ?_ NB191_192.out _; (with_reducible repeat (first|refine Qa ?_ _|refine Qb ?_|refine Q7 ?_ _)); refine blk_far ?_ NB191_192.out _; (with_reducible repeat (first|refine Qa ?_ _|refine Qb ?_|refine Q7 ?_ _)); exact BK191.out⟩
       have n1_ : Aside0 ((((((((w27.setCell ⟨gb192, 0, none⟩ (.string (a0.extract 0 ((ji10) : Int).toNat))).setCell ⟨gb192, 1, none⟩ (.int .i64 0)).setCell ⟨gb192, 2, none⟩ (.int .i64 0)).setCell ⟨gb192, 3, none⟩ (.int .i64 0)).setCell ⟨gb192, 4, none⟩ (.int .i64 0)).setCell ⟨gb192, 5, none⟩ (.int .i32 0)).setCell ⟨gb192, 6, none⟩ (.string (⟨#[]⟩ : ByteArray))).heap[gb192]? = some (.cells #[.string (a0.extract 0 ((ji10) : Int).toNat), .int .i64 0, .int .i64 0, .int .i64 0, .int .i64 0, .int .i32 0, .string (⟨#[]⟩ : ByteArray)] 40 (0, 0))) := ⟨by (with_reducible repeat (first|refine Qa ?_ _|refine Qb ?_|refine Q7 ?_ _)); refine blk_put (cs := #[.string (a0.extract 0 ((ji10) : Int).toNat), .int .i64 0, .int .i64 0, .int .i64 0, .int .i64 0, .int .i32 0, .string (⟨#[]⟩ : ByteArray)]) ?_ 6 _ rfl; (with_reducible repeat (first|refine Qa ?_ _|refine Qb ?_|refine Q7 ?_ _)); refine blk_put (cs := #[.string (a0.extract 0 ((ji10) : Int).toNat), .int .i64 0, .int .i64 0, .int .i64 0, .int .i64 0, .int .i32 0, .string (⟨#[]⟩ : ByteArray)]) ?_ 5 _ rfl; (with_reducible repeat (first|refine Qa ?_ _|refine Qb ?_|refine Q7 ?_ _)); refine blk_put (cs := #[.string (a0.extract 0 ((ji10) : Int).toNat), .int .i64 0, .int .i64 0, .int .i64 0, .int .i64 0, .int .i32 0, .string (⟨#[]⟩ : ByteArray)]) ?_ 4 _ rfl; (with_reducible repeat (first|refine Qa ?_ _|refine Qb ?_|refine Q7 ?_ _)); refine blk_put (cs := #[.string (a0.extract 0 ((ji10) : Int).toNat), .int .i64 0, .int .i64 0, .int .i64 0, .int .i64 0, .int .i32 0, .string (⟨#[]⟩ : ByteArray)]) ?_ 3 _ rfl; (with_reducible repeat (first|refine Qa ?_ _|refine Qb ?_|refine Q7 ?_ _)); refine blk_put (cs := #[.string (a0.extract 0 ((ji10) : Int).toNat), .int .i64 0, .int .i64 0, .int .i64 0, .int .i64 0, .int .i32 0, .string (⟨#[]⟩ : ByteArray)]) ?_ 2 _ rfl; (with_reducible repeat (first|refine Qa ?_ _|refine Qb ?_|refine Q7 ?_ _)); refine blk_put (cs := #[.string (a0.extract 0 ((ji10) : Int).toNat), .int .i64 0, .int .i64 0, .int .i64 0, .int .i64 0, .int .i32 0, .string (⟨#[]⟩ : ByteArray)]) ?_ 1 _ rfl; (with_reducible repeat (first|refine Qa ?_ _|refine Qb ?_|refine Q7 ?_ _)); refine blk_put (cs := #[.string (⟨#[]⟩ : ByteArray), .int .i64 0, .int .i64 0, .int .i64 0, .int .i64 0, .int .i32 0, .string (⟨#[]⟩ : ByteArray)]) ?_ 0 _ rfl; (with_reducible repeat (first|refine Qa ?_ _|refine Qb ?_|refine Q7 ?_ _)); exact BK192.out⟩
       have n2_ : Aside0 (Below w.heap.size w (((((((w27.setCell ⟨gb192, 0, none⟩ (.string (a0.extract 0 ((ji10) : Int).toNat))).setCell ⟨gb192, 1, none⟩ (.int .i64 0)).setCell ⟨gb192, 2, none⟩ (.int .i64 0)).setCell ⟨gb192, 3, none⟩ (.int .i64 0)).setCell ⟨gb192, 4, none⟩ (.int .i64 0)).setCell ⟨gb192, 5, none⟩ (.int .i32 0)).setCell ⟨gb192, 6, none⟩ (.string (⟨#[]⟩ : ByteArray)))) := ⟨by repeat (first|(with_reducible first|exact HB.out|apply Q8|apply Q5|apply Q9|refine Q6 ?_ GE191.out|refine Q6 ?_ GE192.out)|exact HB.out)⟩
       (try clear BK191)
       (try clear BK192)
       (try clear HB)
       generalize (((((((w27.setCell ⟨gb192, 0, none⟩ (.string (a0.extract 0 ((ji10) : Int).toNat))).setCell ⟨gb192, 1, none⟩ (.int .i64 0)).setCell ⟨gb192, 2, none⟩ (.int .i64 0)).setCell ⟨gb192, 3, none⟩ (.int .i64 0)).setCell ⟨gb192, 4, none⟩ (.int .i64 0)).setCell ⟨gb192, 5, none⟩ (.int .i32 0)).setCell ⟨gb192, 6, none⟩ (.string (⟨#[]⟩ : ByteArray))) = w30 at n0_ n1_ n2_ ⊢
       have BK191 := n0_
       have BK192 := n1_
       have HB := n2_
       clear n0_ n1_ n2_
       have n0_ := Q4 (Qb BK191.out)
       have n1_ := Q4 (Qb BK192.out)
       have n2_ := Q4 (Q9 HB.out)
       clear BK191
       clear BK192
       clear HB
       have BK191 := n0_
       have BK192 := n1_
       have HB := n2_
       clear n0_ n1_ n2_
       refine start_ (n := 10) (S := fun w' => w'.cell? ⟨gb192, 0, none⟩ = some (.string (a0.extract 0 ((ji10) : Int).toNat)) ∧ w'.cell? ⟨gb192, 1, none⟩ = some (.int .i64 0) ∧ w'.cell? ⟨gb192, 2, none⟩ = some (.int .i64 0) ∧ w'.cell? ⟨gb192, 3, none⟩ = some (.int .i64 0) ∧ w'.cell? ⟨gb192, 4, none⟩ = some (.int .i64 0) ∧ w'.cell? ⟨gb192, 5, none⟩ = some (.int .i32 0) ∧ w'.cell? ⟨gb192, 6, none⟩ = some (.string (⟨#[]⟩ : ByteArray))) (ds := []) (pm 10 0) (by kernel_rfl) rfl rfl ⟨(Qe BK192.out 0).trans rfl, (Qe BK192.out 1).trans rfl, (Qe BK192.out 2).trans rfl, (Qe BK192.out 3).trans rfl, (Qe BK192.out 4).trans rfl, (Qe BK192.out 5).trans rfl, (Qe BK192.out 6).trans rfl⟩ (fun hHeld => ?_); refine with_tabW curtilageref10_read.tab3 curtilageref10_read.bits3 (fun HT_ HW_ => ?_)
       generalize w30.drew = w31 at BK191 BK192 HB hHeld ⊢
       refine pure_ (i := 1) (N := some 35) (v := ?_) (a' := ?_) #[false,true,false,false,false,false,false,false,false,false] rfl rfl (Qp HT_.out (by kernel_rfl)) (fun _ _ _ h => h) (Or.inl ⟨by rfl, ?_⟩) ?_ ?_
       rotate_left
       ·intro w'
        go_simp
        with_reducible rfl
       rotate_left
       ·simp only [Act.put, Q1,Q2,Q3, i64_w, i32_w]
        rfl
       refine take_ (i := 0) (N := some 34) (v := ?_) (a' := ?_) (pm 10 2) rfl rfl (take_ofW HT_.out HW_.out (by kernel_rfl)) (fun _ _ _ h => h) (Or.inl ⟨by rfl, ?_⟩) hHeld ?_ ?_
       rotate_left
       ·rintro w' ⟨s0, s1, s2, s3, s4, s5, s6⟩
        go_simp
        with_reducible rfl
       rotate_left
       ·simp only [Act.put, Q1,Q2,Q3, i64_w, i32_w]
        rfl
       refine take_ (i := 2) (N := some 36) (v := ?_) (a' := ?_) (pm 10 3) rfl rfl (take_ofW HT_.out HW_.out (by kernel_rfl)) (fun _ _ _ h => h) (Or.inl ⟨by rfl, ?_⟩) hHeld ?_ ?_
       rotate_left
       ·rintro w' ⟨s0, s1, s2, s3, s4, s5, s6⟩
        go_simp
        with_reducible rfl
       rotate_left
       ·simp only [Act.put, Q1,Q2,Q3, i64_w, i32_w]
        rfl
       refine pure_ (i := 3) (N := some 37) (v := ?_) (a' := ?_) (pm 10 4) rfl rfl (Qp HT_.out (by kernel_rfl)) (fun _ _ _ h => h) (Or.inl ⟨by rfl, ?_⟩) ?_ ?_
       rotate_left
       ·intro w'
        go_simp
        with_reducible rfl
       rotate_left
       ·simp only [Act.put, Q1,Q2,Q3, i64_w, i32_w]
        rfl
       refine pure_ (i := 4) (N := some 38) (v := ?_) (a' := ?_) (pm 10 5) rfl rfl (Qp HT_.out (by kernel_rfl)) (fun _ _ _ h => h) (Or.inl ⟨by rfl, ?_⟩) ?_ ?_
       rotate_left
       ·intro w'
        go_simp
        with_reducible rfl
       rotate_left
       ·simp only [Act.put, Q1,Q2,Q3, i64_w, i32_w]
        rfl
       refine take_ (i := 5) (N := some 39) (v := ?_) (a' := ?_) (pm 10 6) rfl rfl (take_ofW HT_.out HW_.out (by kernel_rfl)) (fun _ _ _ h => h) (Or.inl ⟨by rfl, ?_⟩) hHeld ?_ ?_
       rotate_left
       ·rintro w' ⟨s0, s1, s2, s3, s4, s5, s6⟩
        go_simp
        with_reducible rfl
       rotate_left
       ·simp only [Act.put, Q1,Q2,Q3, i64_w, i32_w]
        rfl
       refine one_ (i := 6) (N := some 40) (pm 10 7) rfl rfl (one_of HT_.out (by kernel_rfl)) (by decide) (fun K hK => ?_)
       refine goes_ Tryz.func21 (by kernel_rfl) rfl #[.agg #[.string (a0.extract 0 ((ji10) : Int).toNat), .int .i64 0, .int .i64 0, .int .i64 0, .int .i64 0, .int .i32 0, .string (⟨#[]⟩ : ByteArray)]] (by rfl) rfl rfl (by (try simp only [List.map_toArray, List.map_cons, List.map_nil]); first | done|(simp only [hji10]; rfl)|rfl|(simp only [List.length_drop, List.length_take]; rfl)) ?_
       with_reducible refine (curtilageref10_good.calls kj1 (a0.extract 0 ((ji10) : Int).toNat) 0 0 0 0 0 (⟨#[]⟩ : ByteArray) t193 _ A26.out).mono ?_
       rintro e w32 ⟨rfl, hb⟩
       refine ⟨_, rfl, ?_⟩
       have n0_ := Q4 (Qo (g := gb191) (o := .cells #[.string (⟨#[]⟩ : ByteArray), .int .i64 0, .int .i64 0, .int .i64 0, .int .i64 0, .int .i32 0, .string (⟨#[]⟩ : ByteArray)] 40 (0, 0)) (bK BK191) hb)
       have n1_ := Q4 (Qo (g := gb192) (o := .cells #[.string (a0.extract 0 ((ji10) : Int).toNat), .int .i64 0, .int .i64 0, .int .i64 0, .int .i64 0, .int .i32 0, .string (⟨#[]⟩ : ByteArray)] 40 (0, 0)) (bK BK192) hb)
       have n2_ := Q4 (Qg (by repeat (first|(with_reducible first|exact HB.out|apply Q8|apply Q5|apply Q9|refine Q6 ?_ GE191.out|refine Q6 ?_ GE192.out)|exact HB.out)) hb)
       clear BK191
       clear BK192
       clear HB
       have BK191 := n0_
       have BK192 := n1_
       have HB := n2_
       clear n0_ n1_ n2_
       (try clear hb)
       (try clear hb2)
       (try clear hk)
       (try clear hi)
       refine hK.out _ _ ⟨(Qe BK192.out 0).trans rfl, (Qe BK192.out 1).trans rfl, (Qe BK192.out 2).trans rfl, (Qe BK192.out 3).trans rfl, (Qe BK192.out 4).trans rfl, (Qe BK192.out 5).trans rfl, (Qe BK192.out 6).trans rfl⟩ (fun hHeld => ?_)
       clear hK K
       refine norm_ (a' := ?_) ?_ ?_
       rotate_left
       ·show Act.put _ (some 40) _ = _
        simp only [Act.put, Q1,Q2,Q3, i64_w, i32_w]
        rfl
       refine pure_ (i := 7) (N := some 41) (v := ?_) (a' := ?_) (pm 10 8) rfl rfl (Qp HT_.out (by kernel_rfl)) (fun _ _ _ h => h) (Or.inl ⟨by rfl, ?_⟩) ?_ ?_
       rotate_left
       ·intro w'
        go_simp
        with_reducible rfl
       rotate_left
       ·simp only [Act.put, Q1,Q2,Q3, i64_w, i32_w]
        rfl
       refine one_ (i := 8) (N := none) (pm 10 9) rfl rfl (one_of HT_.out (by kernel_rfl)) (by decide) (fun K hK => ?_)
       have hs33 : w32.cell? ⟨gb191, 0, none⟩ = some (.string (⟨#[]⟩ : ByteArray)) := (Qe BK191.out 0).trans rfl
       have hfs33 := Qd BK191.out 0
       have hns33_1 := NB192_191.out
       have hms33_1 := NB191_192.out
       have hs34 : w32.cell? ⟨gb191, 1, none⟩ = some (.int .i64 0) := (Qe BK191.out 1).trans rfl
       have hfs34 := Qd BK191.out 1
       have hns34_1 := NB192_191.out
       have hms34_1 := NB191_192.out
       have hs35 : w32.cell? ⟨gb191, 2, none⟩ = some (.int .i64 0) := (Qe BK191.out 2).trans rfl
       have hfs35 := Qd BK191.out 2
       have hns35_1 := NB192_191.out
       have hms35_1 := NB191_192.out
       have hs36 : w32.cell? ⟨gb191, 3, none⟩ = some (.int .i64 0) := (Qe BK191.out 3).trans rfl
       have hfs36 := Qd BK191.out 3
       have hns36_1 := NB192_191.out
       have hms36_1 := NB191_192.out
       have hs37 : w32.cell? ⟨gb191, 4, none⟩ = some (.int .i64 0) := (Qe BK191.out 4).trans rfl
       have hfs37 := Qd BK191.out 4
       have hns37_1 := NB192_191.out
       have hms37_1 := NB191_192.out
       have hs38 : w32.cell? ⟨gb191, 5, none⟩ = some (.int .i32 0) := (Qe BK191.out 5).trans rfl
       have hfs38 := Qd BK191.out 5
       have hns38_1 := NB192_191.out
       have hms38_1 := NB191_192.out
       have hs39 : w32.cell? ⟨gb191, 6, none⟩ = some (.string (⟨#[]⟩ : ByteArray)) := (Qe BK191.out 6).trans rfl
       have hfs39 := Qd BK191.out 6
       have hns39_1 := NB192_191.out
       have hms39_1 := NB191_192.out
       refine skip_ (w1 := ?_) (by rfl) rfl ?_ ?_
       rotate_left
       ·go_simp
        rfl
       refine hK.out _ _ ⟨((Qf (p := ⟨gb191, _, none⟩) NB192_191.out _).trans (((Qf (p := ⟨gb191, _, none⟩) NB192_191.out _).trans (((Qf (p := ⟨gb191, _, none⟩) NB192_191.out _).trans (((Qf (p := ⟨gb191, _, none⟩) NB192_191.out _).trans (((Qf (p := ⟨gb191, _, none⟩) NB192_191.out _).trans (((Qf (p := ⟨gb191, _, none⟩) NB192_191.out _).trans (((Qf (p := ⟨gb191, _, none⟩) NB192_191.out _).trans (hHeld.1)))))))))))))), ((Qf (p := ⟨gb191, _, none⟩) NB192_191.out _).trans (((Qf (p := ⟨gb191, _, none⟩) NB192_191.out _).trans (((Qf (p := ⟨gb191, _, none⟩) NB192_191.out _).trans (((Qf (p := ⟨gb191, _, none⟩) NB192_191.out _).trans (((Qf (p := ⟨gb191, _, none⟩) NB192_191.out _).trans (((Qf (p := ⟨gb191, _, none⟩) NB192_191.out _).trans (((Qf (p := ⟨gb191, _, none⟩) NB192_191.out _).trans (hHeld.2.1)))))))))))))), ((Qf (p := ⟨gb191, _, none⟩) NB192_191.out _).trans (((Qf (p := ⟨gb191, _, none⟩) NB192_191.out _).trans (((Qf (p := ⟨gb191, _, none⟩) NB192_191.out _).trans (((Qf (p := ⟨gb191, _, none⟩) NB192_191.out _).trans (((Qf (p := ⟨gb191, _, none⟩) NB192_191.out _).trans (((Qf (p := ⟨gb191, _, none⟩) NB192_191.out _).trans (((Qf (p := ⟨gb191, _, none⟩) NB192_191.out _).trans (hHeld.2.2.1)))))))))))))), ((Qf (p := ⟨gb191, _, none⟩) NB192_191.out _).trans (((Qf (p := ⟨gb191, _, none⟩) NB192_191.out _).trans (((Qf (p := ⟨gb191, _, none⟩) NB192_191.out _).trans (((Qf (p := ⟨gb191, _, none⟩) NB192_191.out _).trans (((Qf (p := ⟨gb191, _, none⟩) NB192_191.out _).trans (((Qf (p := ⟨gb191, _, none⟩) NB192_191.out _).trans (((Qf (p := ⟨gb191, _, none⟩) NB192_191.out _).trans (hHeld.2.2.2.1)))))))))))))), ((Qf (p := ⟨gb191, _, none⟩) NB192_191.out _).trans (((Qf (p := ⟨gb191, _, none⟩) NB192_191.out _).trans (((Qf (p := ⟨gb191, _, none⟩) NB192_191.out _).trans (((Qf (p := ⟨gb191, _, none⟩) NB192_191.out _).trans (((Qf (p := ⟨gb191, _, none⟩) NB192_191.out _).trans (((Qf (p := ⟨gb191, _, none⟩) NB192_191.out _).trans (((Qf (p := ⟨gb191, _, none⟩) NB192_191.out _).trans (hHeld.2.2.2.2.1)))))))))))))), ((Qf (p := ⟨gb191, _, none⟩) NB192_191.out _).trans (((Qf (p := ⟨gb191, _, none⟩) NB192_191.out _).trans (((Qf (p := ⟨gb191, _, none⟩) NB192_191.out _).trans (((Qf (p := ⟨gb191, _, none⟩) NB192_191.out _).trans (((Qf (p := ⟨gb191, _, none⟩) NB192_191.out _).trans (((Qf (p := ⟨gb191, _, none⟩) NB192_191.out _).trans (((Qf (p := ⟨gb191, _, none⟩) NB192_191.out _).trans (hHeld.2.2.2.2.2.1)))))))))))))), ((Qf (p := ⟨gb191, _, none⟩) NB192_191.out _).trans (((Qf (p := ⟨gb191, _, none⟩) NB192_191.out _).trans (((Qf (p := ⟨gb191, _, none⟩) NB192_191.out _).trans (((Qf (p := ⟨gb191, _, none⟩) NB192_191.out _).trans (((Qf (p := ⟨gb191, _, none⟩) NB192_191.out _).trans (((Qf (p := ⟨gb191, _, none⟩) NB192_191.out _).trans (((Qf (p := ⟨gb191, _, none⟩) NB192_191.out _).trans (hHeld.2.2.2.2.2.2))))))))))))))⟩ (fun hHeld => ?_)
       clear hK K
       refine pure_ (i := 9) (N := some 3) (v := ?_) (a' := ?_) (pm 10 10) rfl rfl (Qp HT_.out (by kernel_rfl)) (fun _ _ _ h => h) (Or.inl ⟨by rfl, ?_⟩) ?_ ?_
       rotate_left
       ·intro w'
        go_simp
        with_reducible rfl
       rotate_left
       ·simp only [Act.put, Q1,Q2,Q3, i64_w, i32_w]
        rfl
       refine done_ (done_of HT_.out (by kernel_rfl)) ?_
       try go_wp2
       refine bodyPost_ret (results_ct rfl _ _ gb191 40 #[.string (a0.extract 0 ((ji10) : Int).toNat), .int .i64 0, .int .i64 0, .int .i64 0, .int .i64 0, .int .i32 0, .string (⟨#[]⟩ : ByteArray)] (0, 0) _ rfl (by (with_reducible repeat (first|refine Qa ?_ _|refine Qb ?_|refine Q7 ?_ _)); refine blk_put (cs := #[.string (a0.extract 0 ((ji10) : Int).toNat), .int .i64 0, .int .i64 0, .int .i64 0, .int .i64 0, .int .i32 0, .string (⟨#[]⟩ : ByteArray)]) ?_ 6 _ rfl; (with_reducible repeat (first|refine Qa ?_ _|refine Qb ?_|refine Q7 ?_ _)); refine blk_put (cs := #[.string (a0.extract 0 ((ji10) : Int).toNat), .int .i64 0, .int .i64 0, .int .i64 0, .int .i64 0, .int .i32 0, .string (⟨#[]⟩ : ByteArray)]) ?_ 5 _ rfl; (with_reducible repeat (first|refine Qa ?_ _|refine Qb ?_|refine Q7 ?_ _)); refine blk_put (cs := #[.string (a0.extract 0 ((ji10) : Int).toNat), .int .i64 0, .int .i64 0, .int .i64 0, .int .i64 0, .int .i32 0, .string (⟨#[]⟩ : ByteArray)]) ?_ 4 _ rfl; (with_reducible repeat (first|refine Qa ?_ _|refine Qb ?_|refine Q7 ?_ _)); refine blk_put (cs := #[.string (a0.extract 0 ((ji10) : Int).toNat), .int .i64 0, .int .i64 0, .int .i64 0, .int .i64 0, .int .i32 0, .string (⟨#[]⟩ : ByteArray)]) ?_ 3 _ rfl; (with_reducible repeat (first|refine Qa ?_ _|refine Qb ?_|refine Q7 ?_ _)); refine blk_put (cs := #[.string (a0.extract 0 ((ji10) : Int).toNat), .int .i64 0, .int .i64 0, .int .i64 0, .int .i64 0, .int .i32 0, .string (⟨#[]⟩ : ByteArray)]) ?_ 2 _ rfl; (with_reducible repeat (first|refine Qa ?_ _|refine Qb ?_|refine Q7 ?_ _)); refine blk_put (cs := #[.string (a0.extract 0 ((ji10) : Int).toNat), .int .i64 0, .int .i64 0, .int .i64 0, .int .i64 0, .int .i32 0, .string (⟨#[]⟩ : ByteArray)]) ?_ 1 _ rfl; (with_reducible repeat (first|refine Qa ?_ _|refine Qb ?_|refine Q7 ?_ _)); refine blk_put (cs := #[.string (⟨#[]⟩ : ByteArray), .int .i64 0, .int .i64 0, .int .i64 0, .int .i64 0, .int .i32 0, .string (⟨#[]⟩ : ByteArray)]) ?_ 0 _ rfl; (with_reducible repeat (first|refine Qa ?_ _|refine Qb ?_|refine Q7 ?_ _)); exact BK191.out) Tryz.underlying40 rfl (by kernel_rfl)) rfl ?_
       exact ⟨by first|rfl|(simp [errW_none, errW_some] <;> rfl)|(simp only [← hji10]; first|rfl|(simp [errW_none, errW_some] <;> rfl))|(simp [*, errW_none, errW_some] <;> rfl), by repeat (first|(with_reducible first|exact HB.out|apply Q8|apply Q5|apply Q9|refine Q6 ?_ GE191.out|refine Q6 ?_ GE192.out)|exact HB.out)⟩
     ·rw [if_neg c12] at H
      exact absurd H (by simp)
    ·rw [if_neg c11] at H
     exact absurd H (by simp)
   ·replace c9 := Bool.eq_false_iff.mpr c9
    subst c9
    rw [if_neg (show ¬ (false = true) by decide)] at H
    replace H := Qi H
    obtain ⟨t194, A400, H⟩ := H
    try dsimp only at H
    have A40 := Q4 A400
    clear A400
    have H' := Q4 H
    clear H
    go_wp2_with (first|((with_reducible refine gate_callee (f := 33) rfl ?_); refine gL (some 43) Tryz.func33 #[.string a0] ?_; (with_reducible refine (curtilageref10_words.calls kj1 a0 t194 _ A40.out).mono ?_); rintro e w41 ⟨v195, rfl, ho0, hb⟩; refine ⟨_, rfl, ?_⟩; have n0_ := Q4 (Kd.R_lower ho0 (below_size (by repeat (first|(with_reducible first|exact HB.out|apply Q8|apply Q5|apply Q9|refine Q6 ?_ GE191.out)|exact HB.out)))); have n1_ := Q4 (Qo (g := gb191) (o := .cells #[.string (⟨#[]⟩ : ByteArray), .int .i64 0, .int .i64 0, .int .i64 0, .int .i64 0, .int .i32 0, .string (⟨#[]⟩ : ByteArray)] 40 (0, 0)) (bK BK191) hb); have n2_ := Q4 (Qg (by repeat (first|(with_reducible first|exact HB.out|apply Q8|apply Q5|apply Q9|refine Q6 ?_ GE191.out)|exact HB.out)) hb); clear BK191; clear HB; have HO196 := n0_; have BK191 := n1_; have HB := n2_; clear n0_ n1_ n2_;(try clear hb);(try clear hb2);(try clear hk);(try clear hi);(try clear ho0))|((with_reducible refine gate_dst (N := 6) rfl ?_); (try (refine gate_guard (by rfl) ?_; dsimp only)); refine box_event ?hg (N := 6) ?hd (cs := #[.string (⟨#[]⟩ : ByteArray), .int .i64 0, .int .i64 0, .int .i64 0, .int .i64 0, .int .i32 0, .string (⟨#[]⟩ : ByteArray)]) (t := 40) ?hr ?_; (case hd => rfl); (case hg => rfl); (case hr => first|(go_simp; done)|(go_simp; rfl)); intro gb197 hg w42 hbox hb; have n0_ := Q4 (Kd.R_below (rK HO196) hb); have n1_ := Q4 (Qo (g := gb191) (o := .cells #[.string (⟨#[]⟩ : ByteArray), .int .i64 0, .int .i64 0, .int .i64 0, .int .i64 0, .int .i32 0, .string (⟨#[]⟩ : ByteArray)] 40 (0, 0)) (bK BK191) hb); have n2_ := Q4 (Qg (by repeat (first|(with_reducible first|exact HB.out|apply Q8|apply Q5|apply Q9|refine Q6 ?_ GE191.out)|exact HB.out)) hb); have n3_ := Q4 (hbox); have n4_ := Q4 ((by rw [hg]; exact (below_size (by repeat (first|(with_reducible first|exact HB.out|apply Q8|apply Q5|apply Q9|refine Q6 ?_ GE191.out)|exact HB.out))) : w.heap.size ≤ gb197)); have n5_ := Q4 ((by rw [hg]; exact (below_size (by repeat (first|(with_reducible first|exact HB.out|apply Q8|apply Q5|apply Q9|refine Q6 ?_ GE191.out)|exact HB.out))) : w.heap.size ≤ gb197)); have n6_ := Q4 ((by rw [hg]; exact Nat.ne_of_lt (blk_lt (g := gb191) (o := .cells #[.string (⟨#[]⟩ : ByteArray), .int .i64 0, .int .i64 0, .int .i64 0, .int .i64 0, .int .i32 0, .string (⟨#[]⟩ : ByteArray)] 40 (0, 0)) (bK BK191)) : gb191 ≠ gb197)); have n7_ := Q4 ((by rw [hg]; exact Nat.ne_of_gt (blk_lt (g := gb191) (o := .cells #[.string (⟨#[]⟩ : ByteArray), .int .i64 0, .int .i64 0, .int .i64 0, .int .i64 0, .int .i32 0, .string (⟨#[]⟩ : ByteArray)] 40 (0, 0)) (bK BK191)) : gb197 ≠ gb191)); clear HO196; clear BK191; clear HB; have HO196 := n0_; have BK191 := n1_; have HB := n2_; have BK197 := n3_; have GW197 := n4_; have GE197 := n5_; have NB191_197 := n6_; have NB197_191 := n7_; clear n0_ n1_ n2_ n3_ n4_ n5_ n6_ n7_; clear hb hbox hg; have hnb43 := NB197_191.out; have hnc43 := NB191_197.out; have hcz44_0 : w42.cell? ⟨gb197, 0, none⟩ = some (.string (⟨#[]⟩ : ByteArray)) := (Qe BK197.out 0).trans rfl; have hcz44_1 : w42.cell? ⟨gb197, 1, none⟩ = some (.int .i64 0) := (Qe BK197.out 1).trans rfl; have hcz44_2 : w42.cell? ⟨gb197, 2, none⟩ = some (.int .i64 0) := (Qe BK197.out 2).trans rfl; have hcz44_3 : w42.cell? ⟨gb197, 3, none⟩ = some (.int .i64 0) := (Qe BK197.out 3).trans rfl; have hcz44_4 : w42.cell? ⟨gb197, 4, none⟩ = some (.int .i64 0) := (Qe BK197.out 4).trans rfl; have hcz44_5 : w42.cell? ⟨gb197, 5, none⟩ = some (.int .i32 0) := (Qe BK197.out 5).trans rfl; have hcz44_6 : w42.cell? ⟨gb197, 6, none⟩ = some (.string (⟨#[]⟩ : ByteArray)) := (Qe BK197.out 6).trans rfl; have hfz44_0 := Qd BK197.out 0; have hfz44_1 := Qd BK197.out 1; have hfz44_2 := Qd BK197.out 2; have hfz44_3 := Qd BK197.out 3; have hfz44_4 := Qd BK197.out 4; have hfz44_5 := Qd BK197.out 5; have hfz44_6 := Qd BK197.out 6))
    go_loopg [7] kj1 (fun kq v7 w' => ∃ (x7_2 : Int) (x198001_2 : Int), v7 = .int .i64 x7_2 ∧ Aside0 (curtilageref10_read.l0 kq a0 t194 x7_2 (⟨#[]⟩ : ByteArray) x198001_2 0 0 0 0 (⟨#[]⟩ : ByteArray) = some (r1, r2, r3, r4, r5, r6, r7, r8)) ∧ Aside0 (kq ≤ kj1) ∧ Aside0 (Kd.R Kd.string 9 w' w.heap.size (fun _ => True) v195 t194) ∧ Aside0 (w'.heap[gb191]? = some (.cells #[.string (⟨#[]⟩ : ByteArray), .int .i64 0, .int .i64 0, .int .i64 0, .int .i64 0, .int .i32 0, .string (⟨#[]⟩ : ByteArray)] 40 (0, 0))) ∧ Aside0 (w'.heap[gb197]? = some (.cells #[.string (⟨#[]⟩ : ByteArray), .int .i64 x198001_2, .int .i64 0, .int .i64 0, .int .i64 0, .int .i32 0, .string (⟨#[]⟩ : ByteArray)] 40 (0, 0))) ∧ Aside0 (Below w.heap.size w w'))
    case atStart => exact ⟨(0), (0), (by first|rfl|(simp; done)|(simp [*]; done)), H', ⟨Nat.le_refl _⟩, ⟨by (with_reducible repeat (first|apply Kd.R_alloc|apply Kd.R_drewN|apply Kd.R_drew)); exact Kd.R_mono (Kd.R_far (p := ⟨gb197, 6, none⟩) (Kd.R_far (p := ⟨gb197, 5, none⟩) (Kd.R_far (p := ⟨gb197, 4, none⟩) (Kd.R_far (p := ⟨gb197, 3, none⟩) (Kd.R_far (p := ⟨gb197, 2, none⟩) (Kd.R_far (p := ⟨gb197, 1, none⟩) (Kd.R_far (p := ⟨gb197, 0, none⟩) (Kd.R_types HO196.out BK197.out (by decide)) (fun _ hk => hk.2) (.string (⟨#[]⟩ : ByteArray))) (fun _ hk => hk.2) (.int .i64 0)) (fun _ hk => hk.2) (.int .i64 0)) (fun _ hk => hk.2) (.int .i64 0)) (fun _ hk => hk.2) (.int .i64 0)) (fun _ hk => hk.2) (.int .i32 0)) (fun _ hk => hk.2) (.string (⟨#[]⟩ : ByteArray))) (fun _ hk => trivial)⟩, ⟨by (with_reducible repeat (first|refine Qa ?_ _|refine Qb ?_|refine Q7 ?_ _)); refine blk_far ?_ NB191_197.out _; (with_reducible repeat (first|refine Qa ?_ _|refine Qb ?_|refine Q7 ?_ _)); refine blk_far ?_ NB191_197.out _; (with_reducible repeat (first|refine Qa ?_ _|refine Qb ?_|refine Q7 ?_ _)); refine blk_far ?_ NB191_197.out _; (with_reducible repeat (first|refine Qa ?_ _|refine Qb ?_|refine Q7 ?_ _)); refine blk_far ?_ NB191_197.out _; (with_reducible repeat (first|refine Qa ?_ _|refine Qb ?_|refine Q7 ?_ _)); refine blk_far ?_ NB191_197.out _; (with_reducible repeat (first|refine Qa ?_ _|refine Qb ?_|refine Q7 ?_ _)); refine blk_far ?_ NB191_197.out _; (with_reducible repeat (first|refine Qa ?_ _|refine Qb ?_|refine Q7 ?_ _)); refine blk_far ?_ NB191_197.out _; (with_reducible repeat (first|refine Qa ?_ _|refine Qb ?_|refine Q7 ?_ _)); exact BK191.out⟩, ⟨by (with_reducible repeat (first|refine Qa ?_ _|refine Qb ?_|refine Q7 ?_ _)); refine blk_put (cs := #[.string (⟨#[]⟩ : ByteArray), .int .i64 0, .int .i64 0, .int .i64 0, .int .i64 0, .int .i32 0, .string (⟨#[]⟩ : ByteArray)]) ?_ 6 _ rfl; (with_reducible repeat (first|refine Qa ?_ _|refine Qb ?_|refine Q7 ?_ _)); refine blk_put (cs := #[.string (⟨#[]⟩ : ByteArray), .int .i64 0, .int .i64 0, .int .i64 0, .int .i64 0, .int .i32 0, .string (⟨#[]⟩ : ByteArray)]) ?_ 5 _ rfl; (with_reducible repeat (first|refine Qa ?_ _|refine Qb ?_|refine Q7 ?_ _)); refine blk_put (cs := #[.string (⟨#[]⟩ : ByteArray), .int .i64 0, .int .i64 0, .int .i64 0, .int .i64 0, .int .i32 0, .string (⟨#[]⟩ : ByteArray)]) ?_ 4 _ rfl; (with_reducible repeat (first|refine Qa ?_ _|refine Qb ?_|refine Q7 ?_ _)); refine blk_put (cs := #[.string (⟨#[]⟩ : ByteArray), .int .i64 0, .int .i64 0, .int .i64 0, .int .i64 0, .int .i32 0, .string (⟨#[]⟩ : ByteArray)]) ?_ 3 _ rfl; (with_reducible repeat (first|refine Qa ?_ _|refine Qb ?_|refine Q7 ?_ _)); refine blk_put (cs := #[.string (⟨#[]⟩ : ByteArray), .int .i64 0, .int .i64 0, .int .i64 0, .int .i64 0, .int .i32 0, .string (⟨#[]⟩ : ByteArray)]) ?_ 2 _ rfl; (with_reducible repeat (first|refine Qa ?_ _|refine Qb ?_|refine Q7 ?_ _)); refine blk_put (cs := #[.string (⟨#[]⟩ : ByteArray), .int .i64 0, .int .i64 0, .int .i64 0, .int .i64 0, .int .i32 0, .string (⟨#[]⟩ : ByteArray)]) ?_ 1 _ rfl; (with_reducible repeat (first|refine Qa ?_ _|refine Qb ?_|refine Q7 ?_ _)); refine blk_put (cs := #[.string (⟨#[]⟩ : ByteArray), .int .i64 0, .int .i64 0, .int .i64 0, .int .i64 0, .int .i32 0, .string (⟨#[]⟩ : ByteArray)]) ?_ 0 _ rfl; (with_reducible repeat (first|refine Qa ?_ _|refine Qb ?_|refine Q7 ?_ _)); exact BK197.out⟩, ⟨by repeat (first|(with_reducible first|exact HB.out|apply Q8|apply Q5|apply Q9|refine Q6 ?_ GE191.out|refine Q6 ?_ GE197.out)|exact HB.out)⟩⟩
    case round =>
     clear H'
     (try clear c1);(try clear c2);(try clear p2);(try clear c3);(try clear c4);(try clear c4b0);(try clear c4b1);(try clear c6);(try clear c6b0);(try clear p6);(try clear c7);(try clear c7b0);(try clear p8);(try clear q8);(try clear hx8);(try clear c9);(try clear c11);(try clear c11b0);(try clear c11b1);(try clear c12);(try clear c12b0);(try clear c12b1);(try clear c13);(try clear c13b0);(try clear c13b1);(try clear c15);(try clear c16);(try clear c21);(try clear c28);(try clear c33);(try clear c43);(try clear hcz16_0);(try clear hcz16_1);(try clear hcz16_2);(try clear hcz16_3);(try clear hcz16_4);(try clear hcz16_5);(try clear hcz16_6);(try clear hcz29_0);(try clear hcz29_1);(try clear hcz29_2);(try clear hcz29_3);(try clear hcz29_4);(try clear hcz29_5);(try clear hcz29_6);(try clear hcz44_0);(try clear hcz44_1);(try clear hcz44_2);(try clear hcz44_3);(try clear hcz44_4);(try clear hcz44_5);(try clear hcz44_6);(try clear hfz16_0);(try clear hfz16_1);(try clear hfz16_2);(try clear hfz16_3);(try clear hfz16_4);(try clear hfz16_5);(try clear hfz16_6);(try clear hfz29_0);(try clear hfz29_1);(try clear hfz29_2);(try clear hfz29_3);(try clear hfz29_4);(try clear hfz29_5);(try clear hfz29_6);(try clear hfz44_0);(try clear hfz44_1);(try clear hfz44_2);(try clear hfz44_3);(try clear hfz44_4);(try clear hfz44_5);(try clear hfz44_6);(try clear p2);(try clear p6);(try clear p8);(try clear q8)
     obtain ⟨x7_2, x198001_2, rfl, HA, HK2, HO_5, BK191, BK197, HB⟩ := hrel
     cases gk with
     | zero => exact absurd HA.out (by simp [curtilageref10_read.l0])
     | succ k2 =>
      have H := HA.out
      clear HA
      simp only [curtilageref10_read.l0] at H
      by_cases c45 : x7_2 < 26
      ·rw [if_pos c45] at H
       have c45b0 : decide (x7_2 < 26) = true := Qj c45
       clear c45
       replace H := Qi H
       obtain ⟨t198, A460, H⟩ := H
       try dsimp only at H
       have A46 := Q4 A460
       clear A460
       replace H := Qi H
       obtain ⟨t199, A470, H⟩ := H
       try dsimp only at H
       have A47 := Q4 A470
       clear A470
       by_cases c48 : 0 < (t199.length : Int)
       ·rw [if_pos c48] at H
        have c48b0 : decide (0 < (t199.length : Int)) = true := Qj c48
        have c48b1 : decide (0 < t199.length) = true := Qj (by omega)
        clear c48
        by_cases c49 : 0 < (t194.length : Int)
        ·rw [if_pos c49] at H
         have c49b0 : decide (0 < (t194.length : Int)) = true := Qj c49
         have c49b1 : decide (0 < t194.length) = true := Qj (by omega)
         clear c49
         by_cases c50 : (rdOf ByteArray.empty t199 0).toList = (rdOf ByteArray.empty t194 0).toList
         ·rw [if_pos c50] at H
          have c50b0 : ((rdOf ByteArray.empty t199 0).toList == (rdOf ByteArray.empty t194 0).toList) = true := Qm c50
          have c50b1 : ((rdOf ByteArray.empty t199 0).toList != (rdOf ByteArray.empty t194 0).toList) = false := Qh c50
          clear c50
          have H' := Q4 H
          clear H
          try go_wp2_with (first|((with_reducible refine gate_callee (f := 34) rfl ?_); refine gL (some 51) Tryz.func34 #[.agg #[.int .i64 x7_2, .int .i64 0, .int .i64 0, .int .i64 0, .int .i32 0]] ?_; (with_reducible refine (curtilageref08_Text.calls k2 x7_2 0 0 0 0 t198 _ A46.out).mono ?_); rintro e w51 ⟨rfl, hb⟩; refine ⟨_, rfl, ?_⟩; have n0_ := Q4 (Kd.R_below (rK HO_5) hb); have n1_ := Q4 (Qo (g := gb191) (o := .cells #[.string (⟨#[]⟩ : ByteArray), .int .i64 0, .int .i64 0, .int .i64 0, .int .i64 0, .int .i32 0, .string (⟨#[]⟩ : ByteArray)] 40 (0, 0)) (bK BK191) hb); have n2_ := Q4 (Qo (g := gb197) (o := .cells #[.string (⟨#[]⟩ : ByteArray), .int .i64 x198001_2, .int .i64 0, .int .i64 0, .int .i64 0, .int .i32 0, .string (⟨#[]⟩ : ByteArray)] 40 (0, 0)) (bK BK197) hb); have n3_ := Q4 (Qg (by repeat (first|(with_reducible first|exact HB.out|apply Q8|apply Q5|apply Q9|refine Q6 ?_ GE191.out|refine Q6 ?_ GE197.out)|exact HB.out)) hb); clear HO_5; clear BK191; clear BK197; clear HB; have HO_5 := n0_; have BK191 := n1_; have BK197 := n2_; have HB := n3_; clear n0_ n1_ n2_ n3_;(try clear hb);(try clear hb2);(try clear hk);(try clear hi))|((with_reducible refine gate_callee (f := 33) rfl ?_); refine gL (some 52) Tryz.func33 #[.string t198] ?_; (with_reducible refine (curtilageref10_words.calls k2 t198 t199 _ A47.out).mono ?_); rintro e w52 ⟨v200, rfl, ho0, hb⟩; refine ⟨_, rfl, ?_⟩; have n0_ := Q4 (Kd.R_elder' (rK HO_5) (Kd.R_base ho0) hb); have n1_ := Q4 (Kd.R_lower (Kd.R_new' ho0 (Kd.R_lt (rK HO_5))) (below_size (by repeat (first|(with_reducible first|exact HB.out|apply Q8|apply Q5|apply Q9|refine Q6 ?_ GE191.out|refine Q6 ?_ GE197.out)|exact HB.out)))); have n2_ := Q4 (Qo (g := gb191) (o := .cells #[.string (⟨#[]⟩ : ByteArray), .int .i64 0, .int .i64 0, .int .i64 0, .int .i64 0, .int .i32 0, .string (⟨#[]⟩ : ByteArray)] 40 (0, 0)) (bK BK191) hb); have n3_ := Q4 (Qo (g := gb197) (o := .cells #[.string (⟨#[]⟩ : ByteArray), .int .i64 x198001_2, .int .i64 0, .int .i64 0, .int .i64 0, .int .i32 0, .string (⟨#[]⟩ : ByteArray)] 40 (0, 0)) (bK BK197) hb); have n4_ := Q4 (Qg (by repeat (first|(with_reducible first|exact HB.out|apply Q8|apply Q5|apply Q9|refine Q6 ?_ GE191.out|refine Q6 ?_ GE197.out)|exact HB.out)) hb); clear HO_5; clear BK191; clear BK197; clear HB; have HO_5 := n0_; have HO201 := n1_; have BK191 := n2_; have BK197 := n3_; have HB := n4_; clear n0_ n1_ n2_ n3_ n4_;(try clear hb);(try clear hb2);(try clear hk);(try clear hi);(try clear ho0)))
          have n0_ := Q4 (Kd.R_drew HO_5.out)
          have n1_ := Q4 (Kd.R_drew HO201.out)
          have n2_ := Q4 (Qb BK191.out)
          have n3_ := Q4 (Qb BK197.out)
          have n4_ := Q4 (Q9 HB.out)
          clear HO_5
          clear HO201
          clear BK191
          clear BK197
          clear HB
          have HO_5 := n0_
          have HO201 := n1_
          have BK191 := n2_
          have BK197 := n3_
          have HB := n4_
          clear n0_ n1_ n2_ n3_ n4_
          obtain ⟨Ao54, co54, eo54⟩ := Kd.R_slice HO201.out
          (first | subst eo54|(injection eo54 with f1_ f2_ f3_; have f4_ := f1_.symm; have f5_ := f3_.symm; clear f1_ f2_ f3_; subst f4_; subst f5_))
          have p202 : 0 ≤ (0 : Int) := (by omega)
          have q202 : 0 < (t199.length : Int) := Qc (by first|(with_reducible assumption)|assumption)
          obtain ⟨ad202, e202, hx202_0⟩ := Kd.at_string (Kd.R_reads' HO201.out).2.2 0 p202 q202
          cases e202
          have qi202 : (0 < t199.length) = True := eq_true (by omega)
          (try rw [show ((0 : Int)).toNat = 0 from rfl] at hx202_0)
          (try rw [Addr.add_zero'] at hx202_0)
          replace p202 := eq_true p202
          replace q202 := eq_true q202
          obtain ⟨Ao55, co55, eo55⟩ := Kd.R_slice HO_5.out
          (first | subst eo55|(injection eo55 with f1_ f2_ f3_; have f4_ := f1_.symm; have f5_ := f3_.symm; clear f1_ f2_ f3_; subst f4_; subst f5_))
          have p203 : 0 ≤ (0 : Int) := (by omega)
          have q203 : 0 < (t194.length : Int) := Qc (by first|(with_reducible assumption)|assumption)
          obtain ⟨ad203, e203, hx203_0⟩ := Kd.at_string (Kd.R_reads' HO_5.out).2.2 0 p203 q203
          cases e203
          have qi203 : (0 < t194.length) = True := eq_true (by omega)
          (try rw [show ((0 : Int)).toNat = 0 from rfl] at hx203_0)
          (try rw [Addr.add_zero'] at hx203_0)
          replace p203 := eq_true p203
          replace q203 := eq_true q203
          refine start_ (n := 7) (S := fun w' => w'.cell? ad202 = some (.string (rdOf ByteArray.empty t199 0)) ∧ w'.cell? ad203 = some (.string (rdOf ByteArray.empty t194 0))) (ds := []) (pm 7 0) (by kernel_rfl) rfl rfl ⟨hx202_0, hx203_0⟩ (fun hHeld => ?_)
          generalize w52.drew = w53 at HO_5 HO201 BK191 BK197 HB hx202_0 hx203_0 hHeld ⊢
          refine pure_ (i := 0) (N := some 53) (v := ?_) (a' := ?_) (pm 7 1) rfl rfl (by kernel_rfl) (fun _ _ _ h => h) (Or.inl ⟨by rfl, ?_⟩) ?_ ?_
          rotate_left
          ·intro w'
           go_simp
           with_reducible rfl
          rotate_left
          ·simp only [Act.put, Q1,Q2,Q3, i64_w, i32_w]
           rfl
          refine pure_ (i := 1) (N := some 54) (v := ?_) (a' := ?_) (pm 7 2) rfl rfl (by kernel_rfl) (fun _ _ _ h => h) (Or.inl ⟨by rfl, ?_⟩) ?_ ?_
          rotate_left
          ·intro w'
           go_simp
           with_reducible rfl
          rotate_left
          ·simp only [Act.put, Q1,Q2,Q3, i64_w, i32_w]
           rfl
          refine pure_ (i := 3) (N := some 56) (v := ?_) (a' := ?_) #[true,true,false,true,false,false,false] rfl rfl (by kernel_rfl) (fun _ _ _ h => h) (Or.inl ⟨by rfl, ?_⟩) ?_ ?_
          rotate_left
          ·intro w'
           go_simp
           with_reducible rfl
          rotate_left
          ·simp only [Act.put, Q1,Q2,Q3, i64_w, i32_w]
           rfl
          refine pure_ (i := 4) (N := some 57) (v := ?_) (a' := ?_) #[true,true,false,true,true,false,false] rfl rfl (by kernel_rfl) (fun _ _ _ h => h) (Or.inl ⟨by rfl, ?_⟩) ?_ ?_
          rotate_left
          ·intro w'
           go_simp
           with_reducible rfl
          rotate_left
          ·simp only [Act.put, Q1,Q2,Q3, i64_w, i32_w]
           rfl
          refine take_ (i := 2) (N := some 55) (v := ?_) (a' := ?_) (pm 7 5) rfl rfl (by kernel_rfl) (fun _ _ _ h => h) (Or.inl ⟨by rfl, ?_⟩) hHeld ?_ ?_
          rotate_left
          ·rintro w' ⟨s0, s1⟩
           go_simp
           with_reducible rfl
          rotate_left
          ·simp only [Act.put, Q1,Q2,Q3, i64_w, i32_w]
           rfl
          refine take_ (i := 5) (N := some 58) (v := ?_) (a' := ?_) (pm 7 6) rfl rfl (by kernel_rfl) (fun _ _ _ h => h) (Or.inl ⟨by rfl, ?_⟩) hHeld ?_ ?_
          rotate_left
          ·rintro w' ⟨s0, s1⟩
           go_simp
           with_reducible rfl
          rotate_left
          ·simp only [Act.put, Q1,Q2,Q3, i64_w, i32_w]
           rfl
          refine pure_ (i := 6) (N := some 59) (v := ?_) (a' := ?_) (pm 7 7) rfl rfl (by kernel_rfl) (fun _ _ _ h => h) (Or.inl ⟨by rfl, ?_⟩) ?_ ?_
          rotate_left
          ·intro w'
           go_simp
           with_reducible rfl
          rotate_left
          ·simp only [Act.put, Q1,Q2,Q3, i64_w, i32_w]
           rfl
          refine done_ (by kernel_rfl) ?_
          have hnb56 := NB197_191.out
          have hnc56 := NB191_197.out
          have hcz57_0 : w53.cell? ⟨gb197, 0, none⟩ = some (.string (⟨#[]⟩ : ByteArray)) := (Qe BK197.out 0).trans rfl
          have hcz57_1 : w53.cell? ⟨gb197, 1, none⟩ = some (.int .i64 x198001_2) := (Qe BK197.out 1).trans rfl
          have hcz57_2 : w53.cell? ⟨gb197, 2, none⟩ = some (.int .i64 0) := (Qe BK197.out 2).trans rfl
          have hcz57_3 : w53.cell? ⟨gb197, 3, none⟩ = some (.int .i64 0) := (Qe BK197.out 3).trans rfl
          have hcz57_4 : w53.cell? ⟨gb197, 4, none⟩ = some (.int .i64 0) := (Qe BK197.out 4).trans rfl
          have hcz57_5 : w53.cell? ⟨gb197, 5, none⟩ = some (.int .i32 0) := (Qe BK197.out 5).trans rfl
          have hcz57_6 : w53.cell? ⟨gb197, 6, none⟩ = some (.string (⟨#[]⟩ : ByteArray)) := (Qe BK197.out 6).trans rfl
          have hfz57_0 := Qd BK197.out 0
          have hfz57_1 := Qd BK197.out 1
          have hfz57_2 := Qd BK197.out 2
          have hfz57_3 := Qd BK197.out 3
          have hfz57_4 := Qd BK197.out 4
          have hfz57_5 := Qd BK197.out 5
          have hfz57_6 := Qd BK197.out 6
          try go_wp2
          go_roundg k2
          case measure => have := HJ1.out; have := HK2.out; omega
          case rel => exact ⟨(wrap64 (x7_2 + 1)), (x7_2), (by first|rfl|(simp; done)|(simp [*]; done)), H', ⟨by have := HJ1.out; have := HK2.out; omega⟩, ⟨by (with_reducible repeat (first|apply Kd.R_alloc|apply Kd.R_drewN|apply Kd.R_drew)); exact Kd.R_mono (Kd.R_far (p := ⟨gb197, 1, none⟩) (Kd.R_types HO_5.out BK197.out (by decide)) (fun _ hk => hk.2) (.int .i64 x7_2)) (fun _ hk => trivial)⟩, ⟨by (with_reducible repeat (first|refine Qa ?_ _|refine Qb ?_|refine Q7 ?_ _)); refine blk_far ?_ NB191_197.out _; (with_reducible repeat (first|refine Qa ?_ _|refine Qb ?_|refine Q7 ?_ _)); exact BK191.out⟩, ⟨by (with_reducible repeat (first|refine Qa ?_ _|refine Qb ?_|refine Q7 ?_ _)); refine blk_put (cs := #[.string (⟨#[]⟩ : ByteArray), .int .i64 x198001_2, .int .i64 0, .int .i64 0, .int .i64 0, .int .i32 0, .string (⟨#[]⟩ : ByteArray)]) ?_ 1 _ rfl; (with_reducible repeat (first|refine Qa ?_ _|refine Qb ?_|refine Q7 ?_ _)); exact BK197.out⟩, ⟨by repeat (first|(with_reducible first|exact HB.out|apply Q8|apply Q5|apply Q9|refine Q6 ?_ GE191.out|refine Q6 ?_ GE197.out)|exact HB.out)⟩⟩
         ·rw [if_neg c50] at H
          have c50b0 : ((rdOf ByteArray.empty t199 0).toList == (rdOf ByteArray.empty t194 0).toList) = false := Qk c50
          have c50b1 : ((rdOf ByteArray.empty t199 0).toList != (rdOf ByteArray.empty t194 0).toList) = true := Ql c50
          have H' := Q4 H
          clear H
          try go_wp2_with (first|((with_reducible refine gate_callee (f := 34) rfl ?_); refine gL (some 51) Tryz.func34 #[.agg #[.int .i64 x7_2, .int .i64 0, .int .i64 0, .int .i64 0, .int .i32 0]] ?_; (with_reducible refine (curtilageref08_Text.calls k2 x7_2 0 0 0 0 t198 _ A46.out).mono ?_); rintro e w58 ⟨rfl, hb⟩; refine ⟨_, rfl, ?_⟩; have n0_ := Q4 (Kd.R_below (rK HO_5) hb); have n1_ := Q4 (Qo (g := gb191) (o := .cells #[.string (⟨#[]⟩ : ByteArray), .int .i64 0, .int .i64 0, .int .i64 0, .int .i64 0, .int .i32 0, .string (⟨#[]⟩ : ByteArray)] 40 (0, 0)) (bK BK191) hb); have n2_ := Q4 (Qo (g := gb197) (o := .cells #[.string (⟨#[]⟩ : ByteArray), .int .i64 x198001_2, .int .i64 0, .int .i64 0, .int .i64 0, .int .i32 0, .string (⟨#[]⟩ : ByteArray)] 40 (0, 0)) (bK BK197) hb); have n3_ := Q4 (Qg (by repeat (first|(with_reducible first|exact HB.out|apply Q8|apply Q5|apply Q9|refine Q6 ?_ GE191.out|refine Q6 ?_ GE197.out)|exact HB.out)) hb); clear HO_5; clear BK191; clear BK197; clear HB; have HO_5 := n0_; have BK191 := n1_; have BK197 := n2_; have HB := n3_; clear n0_ n1_ n2_ n3_;(try clear hb);(try clear hb2);(try clear hk);(try clear hi))|((with_reducible refine gate_callee (f := 33) rfl ?_); refine gL (some 52) Tryz.func33 #[.string t198] ?_; (with_reducible refine (curtilageref10_words.calls k2 t198 t199 _ A47.out).mono ?_); rintro e w59 ⟨v200, rfl, ho0, hb⟩; refine ⟨_, rfl, ?_⟩; have n0_ := Q4 (Kd.R_elder' (rK HO_5) (Kd.R_base ho0) hb); have n1_ := Q4 (Kd.R_lower (Kd.R_new' ho0 (Kd.R_lt (rK HO_5))) (below_size (by repeat (first|(with_reducible first|exact HB.out|apply Q8|apply Q5|apply Q9|refine Q6 ?_ GE191.out|refine Q6 ?_ GE197.out)|exact HB.out)))); have n2_ := Q4 (Qo (g := gb191) (o := .cells #[.string (⟨#[]⟩ : ByteArray), .int .i64 0, .int .i64 0, .int .i64 0, .int .i64 0, .int .i32 0, .string (⟨#[]⟩ : ByteArray)] 40 (0, 0)) (bK BK191) hb); have n3_ := Q4 (Qo (g := gb197) (o := .cells #[.string (⟨#[]⟩ : ByteArray), .int .i64 x198001_2, .int .i64 0, .int .i64 0, .int .i64 0, .int .i32 0, .string (⟨#[]⟩ : ByteArray)] 40 (0, 0)) (bK BK197) hb); have n4_ := Q4 (Qg (by repeat (first|(with_reducible first|exact HB.out|apply Q8|apply Q5|apply Q9|refine Q6 ?_ GE191.out|refine Q6 ?_ GE197.out)|exact HB.out)) hb); clear HO_5; clear BK191; clear BK197; clear HB; have HO_5 := n0_; have HO201 := n1_; have BK191 := n2_; have BK197 := n3_; have HB := n4_; clear n0_ n1_ n2_ n3_ n4_;(try clear hb);(try clear hb2);(try clear hk);(try clear hi);(try clear ho0)))
          have n0_ := Q4 (Kd.R_drew HO_5.out)
          have n1_ := Q4 (Kd.R_drew HO201.out)
          have n2_ := Q4 (Qb BK191.out)
          have n3_ := Q4 (Qb BK197.out)
          have n4_ := Q4 (Q9 HB.out)
          clear HO_5
          clear HO201
          clear BK191
          clear BK197
          clear HB
          have HO_5 := n0_
          have HO201 := n1_
          have BK191 := n2_
          have BK197 := n3_
          have HB := n4_
          clear n0_ n1_ n2_ n3_ n4_
          obtain ⟨Ao61, co61, eo61⟩ := Kd.R_slice HO201.out
          (first | subst eo61|(injection eo61 with f1_ f2_ f3_; have f4_ := f1_.symm; have f5_ := f3_.symm; clear f1_ f2_ f3_; subst f4_; subst f5_))
          have p202 : 0 ≤ (0 : Int) := (by omega)
          have q202 : 0 < (t199.length : Int) := Qc (by first|(with_reducible assumption)|assumption)
          obtain ⟨ad202, e202, hx202_0⟩ := Kd.at_string (Kd.R_reads' HO201.out).2.2 0 p202 q202
          cases e202
          have qi202 : (0 < t199.length) = True := eq_true (by omega)
          (try rw [show ((0 : Int)).toNat = 0 from rfl] at hx202_0)
          (try rw [Addr.add_zero'] at hx202_0)
          replace p202 := eq_true p202
          replace q202 := eq_true q202
          obtain ⟨Ao62, co62, eo62⟩ := Kd.R_slice HO_5.out
          (first | subst eo62|(injection eo62 with f1_ f2_ f3_; have f4_ := f1_.symm; have f5_ := f3_.symm; clear f1_ f2_ f3_; subst f4_; subst f5_))
          have p203 : 0 ≤ (0 : Int) := (by omega)
          have q203 : 0 < (t194.length : Int) := Qc (by first|(with_reducible assumption)|assumption)
          obtain ⟨ad203, e203, hx203_0⟩ := Kd.at_string (Kd.R_reads' HO_5.out).2.2 0 p203 q203
          cases e203
          have qi203 : (0 < t194.length) = True := eq_true (by omega)
          (try rw [show ((0 : Int)).toNat = 0 from rfl] at hx203_0)
          (try rw [Addr.add_zero'] at hx203_0)
          replace p203 := eq_true p203
          replace q203 := eq_true q203
          refine start_ (n := 7) (S := fun w' => w'.cell? ad202 = some (.string (rdOf ByteArray.empty t199 0)) ∧ w'.cell? ad203 = some (.string (rdOf ByteArray.empty t194 0))) (ds := []) (pm 7 0) (by kernel_rfl) rfl rfl ⟨hx202_0, hx203_0⟩ (fun hHeld => ?_)
          generalize w59.drew = w60 at HO_5 HO201 BK191 BK197 HB hx202_0 hx203_0 hHeld ⊢
          refine pure_ (i := 0) (N := some 53) (v := ?_) (a' := ?_) (pm 7 1) rfl rfl (by kernel_rfl) (fun _ _ _ h => h) (Or.inl ⟨by rfl, ?_⟩) ?_ ?_
          rotate_left
          ·intro w'
           go_simp
           with_reducible rfl
          rotate_left
          ·simp only [Act.put, Q1,Q2,Q3, i64_w, i32_w]
           rfl
          refine pure_ (i := 1) (N := some 54) (v := ?_) (a' := ?_) (pm 7 2) rfl rfl (by kernel_rfl) (fun _ _ _ h => h) (Or.inl ⟨by rfl, ?_⟩) ?_ ?_
          rotate_left
          ·intro w'
           go_simp
           with_reducible rfl
          rotate_left
          ·simp only [Act.put, Q1,Q2,Q3, i64_w, i32_w]
           rfl
          refine pure_ (i := 3) (N := some 56) (v := ?_) (a' := ?_) #[true,true,false,true,false,false,false] rfl rfl (by kernel_rfl) (fun _ _ _ h => h) (Or.inl ⟨by rfl, ?_⟩) ?_ ?_
          rotate_left
          ·intro w'
           go_simp
           with_reducible rfl
          rotate_left
          ·simp only [Act.put, Q1,Q2,Q3, i64_w, i32_w]
           rfl
          refine pure_ (i := 4) (N := some 57) (v := ?_) (a' := ?_) #[true,true,false,true,true,false,false] rfl rfl (by kernel_rfl) (fun _ _ _ h => h) (Or.inl ⟨by rfl, ?_⟩) ?_ ?_
          rotate_left
          ·intro w'
           go_simp
           with_reducible rfl
          rotate_left
          ·simp only [Act.put, Q1,Q2,Q3, i64_w, i32_w]
           rfl
          refine take_ (i := 2) (N := some 55) (v := ?_) (a' := ?_) (pm 7 5) rfl rfl (by kernel_rfl) (fun _ _ _ h => h) (Or.inl ⟨by rfl, ?_⟩) hHeld ?_ ?_
          rotate_left
          ·rintro w' ⟨s0, s1⟩
           go_simp
           with_reducible rfl
          rotate_left
          ·simp only [Act.put, Q1,Q2,Q3, i64_w, i32_w]
           rfl
          refine take_ (i := 5) (N := some 58) (v := ?_) (a' := ?_) (pm 7 6) rfl rfl (by kernel_rfl) (fun _ _ _ h => h) (Or.inl ⟨by rfl, ?_⟩) hHeld ?_ ?_
          rotate_left
          ·rintro w' ⟨s0, s1⟩
           go_simp
           with_reducible rfl
          rotate_left
          ·simp only [Act.put, Q1,Q2,Q3, i64_w, i32_w]
           rfl
          refine pure_ (i := 6) (N := some 59) (v := ?_) (a' := ?_) (pm 7 7) rfl rfl (by kernel_rfl) (fun _ _ _ h => h) (Or.inl ⟨by rfl, ?_⟩) ?_ ?_
          rotate_left
          ·intro w'
           go_simp
           with_reducible rfl
          rotate_left
          ·simp only [Act.put, Q1,Q2,Q3, i64_w, i32_w]
           rfl
          refine done_ (by kernel_rfl) ?_
          try go_wp2
          go_roundg k2
          case measure => have := HJ1.out; have := HK2.out; omega
          case rel => exact ⟨(wrap64 (x7_2 + 1)), (x198001_2), (by first|rfl|(simp; done)|(simp [*]; done)), H', ⟨by have := HJ1.out; have := HK2.out; omega⟩, ⟨by (with_reducible repeat (first|apply Kd.R_alloc|apply Kd.R_drewN|apply Kd.R_drew)); exact Kd.R_mono HO_5.out (fun _ hk => trivial)⟩, ⟨by (with_reducible repeat (first|refine Qa ?_ _|refine Qb ?_|refine Q7 ?_ _)); exact BK191.out⟩, ⟨by (with_reducible repeat (first|refine Qa ?_ _|refine Qb ?_|refine Q7 ?_ _)); exact BK197.out⟩, ⟨by repeat (first|(with_reducible first|exact HB.out|apply Q8|apply Q5|apply Q9|refine Q6 ?_ GE191.out|refine Q6 ?_ GE197.out)|exact HB.out)⟩⟩
        ·rw [if_neg c49] at H
         exact absurd H (by simp)
       ·rw [if_neg c48] at H
        exact absurd H (by simp)
      ·rw [if_neg c45] at H
       have c45b0 : decide (x7_2 < 26) = false := decide_eq_false c45
       clear c45
       replace H := Qi H
       obtain ⟨t204, A630, H⟩ := H
       try dsimp only at H
       have A63 := Q4 A630
       clear A630
       by_cases c64 : (t194.length : Int) = (wrap64 ((t204.size : Int) + 1))
       ·rw [if_pos c64] at H
        have c64b0 : ((t194.length : Int) == (wrap64 ((t204.size : Int) + 1))) = true := Qm c64
        have c64b1 : ((t194.length : Int) != (wrap64 ((t204.size : Int) + 1))) = false := Qh c64
        clear c64
        have H' := Q4 H
        clear H
        have hnb65 := NB197_191.out
        have hnc65 := NB191_197.out
        have hcz66_0 : wr.cell? ⟨gb197, 0, none⟩ = some (.string (⟨#[]⟩ : ByteArray)) := (Qe BK197.out 0).trans rfl
        have hcz66_1 : wr.cell? ⟨gb197, 1, none⟩ = some (.int .i64 x198001_2) := (Qe BK197.out 1).trans rfl
        have hcz66_2 : wr.cell? ⟨gb197, 2, none⟩ = some (.int .i64 0) := (Qe BK197.out 2).trans rfl
        have hcz66_3 : wr.cell? ⟨gb197, 3, none⟩ = some (.int .i64 0) := (Qe BK197.out 3).trans rfl
        have hcz66_4 : wr.cell? ⟨gb197, 4, none⟩ = some (.int .i64 0) := (Qe BK197.out 4).trans rfl
        have hcz66_5 : wr.cell? ⟨gb197, 5, none⟩ = some (.int .i32 0) := (Qe BK197.out 5).trans rfl
        have hcz66_6 : wr.cell? ⟨gb197, 6, none⟩ = some (.string (⟨#[]⟩ : ByteArray)) := (Qe BK197.out 6).trans rfl
        have hfz66_0 := Qd BK197.out 0
        have hfz66_1 := Qd BK197.out 1
        have hfz66_2 := Qd BK197.out 2
        have hfz66_3 := Qd BK197.out 3
        have hfz66_4 := Qd BK197.out 4
        have hfz66_5 := Qd BK197.out 5
        have hfz66_6 := Qd BK197.out 6
        go_wp2_with (first|((with_reducible refine gate_callee (f := 35) rfl ?_); refine gL (some 66) Tryz.func35 #[.int .i64 x198001_2] ?_; (with_reducible refine (curtilageref08_Shape.calls k2 x198001_2 t204 _ A63.out).mono ?_); rintro e w' ⟨rfl, ⟨nd, rfl⟩⟩; refine ⟨_, rfl, ?_⟩; obtain ⟨Ao67, co67, eo67⟩ := Kd.R_slice HO_5.out; subst eo67))
        go_loopg [10] k2 (fun kq v10 w' => ∃ (x10_3 : Int) (x192000_3 : ByteArray) (x192001_3 : Int) (x192002_3 : Int) (x192003_3 : Int) (x192004_3 : Int) (x192005_3 : Int) (x192006_3 : ByteArray) (x198002_3 : Int) (x198003_3 : Int) (x198004_3 : Int) (x198005_3 : Int) (x198006_3 : ByteArray), v10 = .int .i64 x10_3 ∧ Aside0 (curtilageref10_read.l1 kq a0 t194 t204 x10_3 (⟨#[]⟩ : ByteArray) x198001_2 x198002_3 x198003_3 x198004_3 x198005_3 x198006_3 = some (r1, r2, r3, r4, r5, r6, r7, r8)) ∧ Aside0 (kq ≤ k2) ∧ Aside0 (Kd.R Kd.string 9 w' w.heap.size (fun _ => True) (.slice Ao67 t194.length co67) t194) ∧ Aside0 (w'.heap[gb191]? = some (.cells #[.string x192000_3, .int .i64 x192001_3, .int .i64 x192002_3, .int .i64 x192003_3, .int .i64 x192004_3, .int .i32 x192005_3, .string x192006_3] 40 (0, 0))) ∧ Aside0 (w'.heap[gb197]? = some (.cells #[.string (⟨#[]⟩ : ByteArray), .int .i64 x198001_2, .int .i64 x198002_3, .int .i64 x198003_3, .int .i64 x198004_3, .int .i32 x198005_3, .string x198006_3] 40 (0, 0))) ∧ Aside0 (Below w.heap.size w w'))
        case atStart => exact ⟨(0), ((⟨#[]⟩ : ByteArray)), (0), (0), (0), (0), (0), ((⟨#[]⟩ : ByteArray)), (0), (0), (0), (0), ((⟨#[]⟩ : ByteArray)), (by first|rfl|(simp; done)|(simp [*]; done)), H', ⟨Nat.le_refl _⟩, ⟨by (with_reducible repeat (first|apply Kd.R_alloc|apply Kd.R_drewN|apply Kd.R_drew)); exact HO_5.out⟩, ⟨by (with_reducible repeat (first|refine Qa ?_ _|refine Qb ?_|refine Q7 ?_ _)); exact BK191.out⟩, ⟨by (with_reducible repeat (first|refine Qa ?_ _|refine Qb ?_|refine Q7 ?_ _)); exact BK197.out⟩, ⟨by repeat (first|(with_reducible first|exact HB.out|apply Q8|apply Q5|apply Q9|refine Q6 ?_ GE191.out|refine Q6 ?_ GE197.out)|exact HB.out)⟩⟩
        case round =>
         clear H'
         (try clear c1);(try clear c2);(try clear p2);(try clear q2);(try clear hx2);(try clear qi2);(try clear c3);(try clear c4);(try clear c4b0);(try clear c4b1);(try clear c5);(try clear c6);(try clear c6b0);(try clear p6);(try clear c7);(try clear c7b0);(try clear p8);(try clear q8);(try clear hx8);(try clear c9);(try clear c11);(try clear c11b0);(try clear c11b1);(try clear c12);(try clear c12b0);(try clear c12b1);(try clear c13);(try clear c13b0);(try clear c13b1);(try clear c15);(try clear c16);(try clear p20);(try clear q20);(try clear hx20);(try clear qi20);(try clear c21);(try clear c28);(try clear c33);(try clear c34);(try clear c35);(try clear c43);(try clear c45);(try clear c45b0);(try clear c48);(try clear c48b0);(try clear c48b1);(try clear c49);(try clear c49b0);(try clear c49b1);(try clear c50);(try clear c50b0);(try clear c50b1);(try clear c56);(try clear c64);(try clear c64b0);(try clear c64b1);(try clear p64);(try clear c65);(try clear hcz16_0);(try clear hcz16_1);(try clear hcz16_2);(try clear hcz16_3);(try clear hcz16_4);(try clear hcz16_5);(try clear hcz16_6);(try clear hcz29_0);(try clear hcz29_1);(try clear hcz29_2);(try clear hcz29_3);(try clear hcz29_4);(try clear hcz29_5);(try clear hcz29_6);(try clear hcz44_0);(try clear hcz44_1);(try clear hcz44_2);(try clear hcz44_3);(try clear hcz44_4);(try clear hcz44_5);(try clear hcz44_6);(try clear hcz57_0);(try clear hcz57_1);(try clear hcz57_2);(try clear hcz57_3);(try clear hcz57_4);(try clear hcz57_5);(try clear hcz57_6);(try clear hcz66_0);(try clear hcz66_1);(try clear hcz66_2);(try clear hcz66_3);(try clear hcz66_4);(try clear hcz66_5);(try clear hcz66_6);(try clear hfz16_0);(try clear hfz16_1);(try clear hfz16_2);(try clear hfz16_3);(try clear hfz16_4);(try clear hfz16_5);(try clear hfz16_6);(try clear hfz29_0);(try clear hfz29_1);(try clear hfz29_2);(try clear hfz29_3);(try clear hfz29_4);(try clear hfz29_5);(try clear hfz29_6);(try clear hfz44_0);(try clear hfz44_1);(try clear hfz44_2);(try clear hfz44_3);(try clear hfz44_4);(try clear hfz44_5);(try clear hfz44_6);(try clear hfz57_0);(try clear hfz57_1);(try clear hfz57_2);(try clear hfz57_3);(try clear hfz57_4);(try clear hfz57_5);(try clear hfz57_6);(try clear hfz66_0);(try clear hfz66_1);(try clear hfz66_2);(try clear hfz66_3);(try clear hfz66_4);(try clear hfz66_5);(try clear hfz66_6);(try clear hx202_0);(try clear hx203_0);(try clear p2);(try clear p202);(try clear p203);(try clear p6);(try clear p8);(try clear q202);(try clear q203);(try clear q8)
         obtain ⟨x10_3, x192000_3, x192001_3, x192002_3, x192003_3, x192004_3, x192005_3, x192006_3, x198002_3, x198003_3, x198004_3, x198005_3, x198006_3, rfl, HA, HK3, HO_5, BK191, BK197, HB⟩ := hrel
         cases gk with
         | zero => exact absurd HA.out (by simp [curtilageref10_read.l1])
         | succ k3 =>
          have H := HA.out
          clear HA
          simp only [curtilageref10_read.l1] at H
          by_cases c68 : x10_3 < (t204.size : Int)
          ·rw [if_pos c68] at H
           have c68b0 : decide (x10_3 < (t204.size : Int)) = true := Qj c68
           clear c68
           obtain ⟨ji69, hji69⟩ : ∃ j_ : Int, (wrap64 (x10_3 + 1)) = j_ := ⟨_, rfl⟩
           replace H : (if 0 ≤ (ji69) then (if (ji69) < (t194.length : Int) then ((curtilageref10_register.f k3 (rdOf ByteArray.empty t194 (ji69))).bind fun t208 => (if 0 ≤ x10_3 then (if (bt t204 x10_3) = 97 then (curtilageref10_read.l1 k3 a0 t194 t204 ji69 (⟨#[]⟩ : ByteArray) x198001_2 t208 x198003_3 x198004_3 x198005_3 x198006_3) else (if (bt t204 x10_3) = 98 then (curtilageref10_read.l1 k3 a0 t194 t204 ji69 (⟨#[]⟩ : ByteArray) x198001_2 x198002_3 t208 x198004_3 x198005_3 x198006_3) else (if (bt t204 x10_3) = 99 then (curtilageref10_read.l1 k3 a0 t194 t204 ji69 (⟨#[]⟩ : ByteArray) x198001_2 x198002_3 x198003_3 t208 x198005_3 x198006_3) else (if (rdOf ByteArray.empty t194 (ji69)).toList = ([] : List UInt8) then (curtilageref10_read.j3 k3 a0 t194 t204 x10_3 (rdOf ByteArray.empty t194 (ji69)) false (⟨#[]⟩ : ByteArray) x198001_2 x198002_3 x198003_3 x198004_3 x198005_3 x198006_3) else (if 0 < ((rdOf ByteArray.empty t194 (ji69)).size : Int) then (curtilageref10_read.j3 k3 a0 t194 t204 x10_3 (rdOf ByteArray.empty t194 (ji69)) ((bt (rdOf ByteArray.empty t194 (ji69)) 0) == 64) (⟨#[]⟩ : ByteArray) x198001_2 x198002_3 x198003_3 x198004_3 x198005_3 x198006_3) else (none)))))) else (none))) else (none)) else (none)) = some (r1, r2, r3, r4, r5, r6, r7, r8) := by first|(rw [hji69] at H; exact H)|(simp only [hji69] at H ⊢; exact H)
           have hji69w : (IntKind.i64.wrap (x10_3 + 1)) = ji69 := (i64_w _).trans hji69
           by_cases c70 : 0 ≤ (ji69)
           ·rw [if_pos c70] at H
            have c70b0 : decide (0 ≤ (ji69)) = true := Qj c70
            clear c70
            by_cases c71 : (ji69) < (t194.length : Int)
            ·rw [if_pos c71] at H
             have c71b0 : decide ((ji69) < (t194.length : Int)) = true := Qj c71
             clear c71
             replace H := Qi H
             obtain ⟨t208, A720, H⟩ := H
             try dsimp only at H
             have A72 := Q4 A720
             clear A720
             by_cases c73 : 0 ≤ x10_3
             ·rw [if_pos c73] at H
              have c73b0 : decide (0 ≤ x10_3) = true := Qj c73
              clear c73
              by_cases c75 : (bt t204 x10_3) = 97
              ·rw [if_pos c75] at H
               have c75b0 : ((bt t204 x10_3) == 97) = true := Qm c75
               have c75b1 : ((bt t204 x10_3) != 97) = false := Qh c75
               clear c75
               have H' := Q4 H
               clear H
               have p207 : 0 ≤ ((ji69) : Int) := Qc (by first|(with_reducible assumption)|assumption)
               have q207 : (ji69) < (t194.length : Int) := Qc (by first|(with_reducible assumption)|assumption)
               obtain ⟨ad207, e207, hx207_0⟩ := Kd.at_string (Kd.R_reads' HO_5.out).2.2 (ji69) p207 q207
               cases e207
               replace p207 := eq_true p207
               replace q207 := eq_true q207
               go_wp2_with (first|((with_reducible refine gate_callee (f := 36) rfl ?_); refine goesL_ (some 86) rfl rfl Tryz.func36 (by kernel_rfl) rfl #[.string (rdOf ByteArray.empty t194 (ji69))] rfl (by (try simp only [List.map_toArray, List.map_cons, List.map_nil]); first | done|(simp only [hji69]; rfl)|rfl|(simp only [List.length_drop, List.length_take]; rfl)) ?_; (with_reducible refine (curtilageref10_register.calls k3 (rdOf ByteArray.empty t194 (ji69)) t208 _ A72.out).mono ?_); rintro e w76 ⟨rfl, hb⟩; refine ⟨_, rfl, ?_⟩; have n0_ := Q4 (Kd.R_below (rK HO_5) hb); have n1_ := Q4 (Qo (g := gb191) (o := .cells #[.string x192000_3, .int .i64 x192001_3, .int .i64 x192002_3, .int .i64 x192003_3, .int .i64 x192004_3, .int .i32 x192005_3, .string x192006_3] 40 (0, 0)) (bK BK191) hb); have n2_ := Q4 (Qo (g := gb197) (o := .cells #[.string (⟨#[]⟩ : ByteArray), .int .i64 x198001_2, .int .i64 x198002_3, .int .i64 x198003_3, .int .i64 x198004_3, .int .i32 x198005_3, .string x198006_3] 40 (0, 0)) (bK BK197) hb); have n3_ := Q4 (Qg (by repeat (first|(with_reducible first|exact HB.out|apply Q8|apply Q5|apply Q9|refine Q6 ?_ GE191.out|refine Q6 ?_ GE197.out)|exact HB.out)) hb); clear HO_5; clear BK191; clear BK197; clear HB; have HO_5 := n0_; have BK191 := n1_; have BK197 := n2_; have HB := n3_; clear n0_ n1_ n2_ n3_;(try clear hb);(try clear hb2);(try clear hk);(try clear hi); have p74 : 0 ≤ (x10_3 : Int) := Qc (by first|(with_reducible assumption)|assumption); have q74 : x10_3 < (t204.size : Int) := Qc (by first|(with_reducible assumption)|assumption); have hx74 := bt_at t204 x10_3; replace p74 := eq_true p74; replace q74 := eq_true q74; have hnb77 := NB197_191.out; have hnc77 := NB191_197.out; have hcz78_0 : w76.cell? ⟨gb197, 0, none⟩ = some (.string (⟨#[]⟩ : ByteArray)) := (Qe BK197.out 0).trans rfl; have hcz78_1 : w76.cell? ⟨gb197, 1, none⟩ = some (.int .i64 x198001_2) := (Qe BK197.out 1).trans rfl; have hcz78_2 : w76.cell? ⟨gb197, 2, none⟩ = some (.int .i64 x198002_3) := (Qe BK197.out 2).trans rfl; have hcz78_3 : w76.cell? ⟨gb197, 3, none⟩ = some (.int .i64 x198003_3) := (Qe BK197.out 3).trans rfl; have hcz78_4 : w76.cell? ⟨gb197, 4, none⟩ = some (.int .i64 x198004_3) := (Qe BK197.out 4).trans rfl; have hcz78_5 : w76.cell? ⟨gb197, 5, none⟩ = some (.int .i32 x198005_3) := (Qe BK197.out 5).trans rfl; have hcz78_6 : w76.cell? ⟨gb197, 6, none⟩ = some (.string x198006_3) := (Qe BK197.out 6).trans rfl; have hfz78_0 := Qd BK197.out 0; have hfz78_1 := Qd BK197.out 1; have hfz78_2 := Qd BK197.out 2; have hfz78_3 := Qd BK197.out 3; have hfz78_4 := Qd BK197.out 4; have hfz78_5 := Qd BK197.out 5; have hfz78_6 := Qd BK197.out 6))
               go_roundg k3
               case measure => have := HJ1.out; have := HK2.out; have := HK3.out; omega
               case rel => exact ⟨(ji69), (x192000_3), (x192001_3), (x192002_3), (x192003_3), (x192004_3), (x192005_3), (x192006_3), (t208), (x198003_3), (x198004_3), (x198005_3), (x198006_3), (by first|rfl|(simp; done)|(simp only [← hji69] <;> (first|rfl | simp))|(simp [*]; done)), H', ⟨by have := HJ1.out; have := HK2.out; have := HK3.out; omega⟩, ⟨by (with_reducible repeat (first|apply Kd.R_alloc|apply Kd.R_drewN|apply Kd.R_drew)); exact Kd.R_mono (Kd.R_far (p := ⟨gb197, 2, none⟩) (Kd.R_types HO_5.out BK197.out (by decide)) (fun _ hk => hk.2) (.int .i64 t208)) (fun _ hk => trivial)⟩, ⟨by (with_reducible repeat (first|refine Qa ?_ _|refine Qb ?_|refine Q7 ?_ _)); refine blk_far ?_ NB191_197.out _; (with_reducible repeat (first|refine Qa ?_ _|refine Qb ?_|refine Q7 ?_ _)); exact BK191.out⟩, ⟨by (with_reducible repeat (first|refine Qa ?_ _|refine Qb ?_|refine Q7 ?_ _)); refine blk_put (cs := #[.string (⟨#[]⟩ : ByteArray), .int .i64 x198001_2, .int .i64 x198002_3, .int .i64 x198003_3, .int .i64 x198004_3, .int .i32 x198005_3, .string x198006_3]) ?_ 2 _ rfl; (with_reducible repeat (first|refine Qa ?_ _|refine Qb ?_|refine Q7 ?_ _)); exact BK197.out⟩, ⟨by repeat (first|(with_reducible first|exact HB.out|apply Q8|apply Q5|apply Q9|refine Q6 ?_ GE191.out|refine Q6 ?_ GE197.out)|exact HB.out)⟩⟩
              ·rw [if_neg c75] at H
               have c75b0 : ((bt t204 x10_3) == 97) = false := Qk c75
               have c75b1 : ((bt t204 x10_3) != 97) = true := Ql c75
               by_cases c80 : (bt t204 x10_3) = 98
               ·rw [if_pos c80] at H
                have c80b0 : ((bt t204 x10_3) == 98) = true := Qm c80
                have c80b1 : ((bt t204 x10_3) != 98) = false := Qh c80
                clear c80
                have H' := Q4 H
                clear H
                have p207 : 0 ≤ ((ji69) : Int) := Qc (by first|(with_reducible assumption)|assumption)
                have q207 : (ji69) < (t194.length : Int) := Qc (by first|(with_reducible assumption)|assumption)
                obtain ⟨ad207, e207, hx207_0⟩ := Kd.at_string (Kd.R_reads' HO_5.out).2.2 (ji69) p207 q207
                cases e207
                replace p207 := eq_true p207
                replace q207 := eq_true q207
                go_wp2_with (first|((with_reducible refine gate_callee (f := 36) rfl ?_); refine goesL_ (some 86) rfl rfl Tryz.func36 (by kernel_rfl) rfl #[.string (rdOf ByteArray.empty t194 (ji69))] rfl (by (try simp only [List.map_toArray, List.map_cons, List.map_nil]); first | done|(simp only [hji69]; rfl)|rfl|(simp only [List.length_drop, List.length_take]; rfl)) ?_; (with_reducible refine (curtilageref10_register.calls k3 (rdOf ByteArray.empty t194 (ji69)) t208 _ A72.out).mono ?_); rintro e w81 ⟨rfl, hb⟩; refine ⟨_, rfl, ?_⟩; have n0_ := Q4 (Kd.R_below (rK HO_5) hb); have n1_ := Q4 (Qo (g := gb191) (o := .cells #[.string x192000_3, .int .i64 x192001_3, .int .i64 x192002_3, .int .i64 x192003_3, .int .i64 x192004_3, .int .i32 x192005_3, .string x192006_3] 40 (0, 0)) (bK BK191) hb); have n2_ := Q4 (Qo (g := gb197) (o := .cells #[.string (⟨#[]⟩ : ByteArray), .int .i64 x198001_2, .int .i64 x198002_3, .int .i64 x198003_3, .int .i64 x198004_3, .int .i32 x198005_3, .string x198006_3] 40 (0, 0)) (bK BK197) hb); have n3_ := Q4 (Qg (by repeat (first|(with_reducible first|exact HB.out|apply Q8|apply Q5|apply Q9|refine Q6 ?_ GE191.out|refine Q6 ?_ GE197.out)|exact HB.out)) hb); clear HO_5; clear BK191; clear BK197; clear HB; have HO_5 := n0_; have BK191 := n1_; have BK197 := n2_; have HB := n3_; clear n0_ n1_ n2_ n3_;(try clear hb);(try clear hb2);(try clear hk);(try clear hi); have p74 : 0 ≤ (x10_3 : Int) := Qc (by first|(with_reducible assumption)|assumption); have q74 : x10_3 < (t204.size : Int) := Qc (by first|(with_reducible assumption)|assumption); have hx74 := bt_at t204 x10_3; replace p74 := eq_true p74; replace q74 := eq_true q74; have p79 : 0 ≤ (x10_3 : Int) := Qc (by first|(with_reducible assumption)|assumption); have q79 : x10_3 < (t204.size : Int) := Qc (by first|(with_reducible assumption)|assumption); have hx79 := bt_at t204 x10_3; replace p79 := eq_true p79; replace q79 := eq_true q79; have hnb82 := NB197_191.out; have hnc82 := NB191_197.out; have hcz83_0 : w81.cell? ⟨gb197, 0, none⟩ = some (.string (⟨#[]⟩ : ByteArray)) := (Qe BK197.out 0).trans rfl; have hcz83_1 : w81.cell? ⟨gb197, 1, none⟩ = some (.int .i64 x198001_2) := (Qe BK197.out 1).trans rfl; have hcz83_2 : w81.cell? ⟨gb197, 2, none⟩ = some (.int .i64 x198002_3) := (Qe BK197.out 2).trans rfl; have hcz83_3 : w81.cell? ⟨gb197, 3, none⟩ = some (.int .i64 x198003_3) := (Qe BK197.out 3).trans rfl; have hcz83_4 : w81.cell? ⟨gb197, 4, none⟩ = some (.int .i64 x198004_3) := (Qe BK197.out 4).trans rfl; have hcz83_5 : w81.cell? ⟨gb197, 5, none⟩ = some (.int .i32 x198005_3) := (Qe BK197.out 5).trans rfl; have hcz83_6 : w81.cell? ⟨gb197, 6, none⟩ = some (.string x198006_3) := (Qe BK197.out 6).trans rfl; have hfz83_0 := Qd BK197.out 0; have hfz83_1 := Qd BK197.out 1; have hfz83_2 := Qd BK197.out 2; have hfz83_3 := Qd BK197.out 3; have hfz83_4 := Qd BK197.out 4; have hfz83_5 := Qd BK197.out 5; have hfz83_6 := Qd BK197.out 6))
                go_roundg k3
                case measure => have := HJ1.out; have := HK2.out; have := HK3.out; omega
                case rel => exact ⟨(ji69), (x192000_3), (x192001_3), (x192002_3), (x192003_3), (x192004_3), (x192005_3), (x192006_3), (x198002_3), (t208), (x198004_3), (x198005_3), (x198006_3), (by first|rfl|(simp; done)|(simp only [← hji69] <;> (first|rfl | simp))|(simp [*]; done)), H', ⟨by have := HJ1.out; have := HK2.out; have := HK3.out; omega⟩, ⟨by (with_reducible repeat (first|apply Kd.R_alloc|apply Kd.R_drewN|apply Kd.R_drew)); exact Kd.R_mono (Kd.R_far (p := ⟨gb197, 3, none⟩) (Kd.R_types HO_5.out BK197.out (by decide)) (fun _ hk => hk.2) (.int .i64 t208)) (fun _ hk => trivial)⟩, ⟨by (with_reducible repeat (first|refine Qa ?_ _|refine Qb ?_|refine Q7 ?_ _)); refine blk_far ?_ NB191_197.out _; (with_reducible repeat (first|refine Qa ?_ _|refine Qb ?_|refine Q7 ?_ _)); exact BK191.out⟩, ⟨by (with_reducible repeat (first|refine Qa ?_ _|refine Qb ?_|refine Q7 ?_ _)); refine blk_put (cs := #[.string (⟨#[]⟩ : ByteArray), .int .i64 x198001_2, .int .i64 x198002_3, .int .i64 x198003_3, .int .i64 x198004_3, .int .i32 x198005_3, .string x198006_3]) ?_ 3 _ rfl; (with_reducible repeat (first|refine Qa ?_ _|refine Qb ?_|refine Q7 ?_ _)); exact BK197.out⟩, ⟨by repeat (first|(with_reducible first|exact HB.out|apply Q8|apply Q5|apply Q9|refine Q6 ?_ GE191.out|refine Q6 ?_ GE197.out)|exact HB.out)⟩⟩
               ·rw [if_neg c80] at H
                have c80b0 : ((bt t204 x10_3) == 98) = false := Qk c80
                have c80b1 : ((bt t204 x10_3) != 98) = true := Ql c80
                by_cases c85 : (bt t204 x10_3) = 99
                ·rw [if_pos c85] at H
                 have c85b0 : ((bt t204 x10_3) == 99) = true := Qm c85
                 have c85b1 : ((bt t204 x10_3) != 99) = false := Qh c85
                 clear c85
                 have H' := Q4 H
                 clear H
                 have p207 : 0 ≤ ((ji69) : Int) := Qc (by first|(with_reducible assumption)|assumption)
                 have q207 : (ji69) < (t194.length : Int) := Qc (by first|(with_reducible assumption)|assumption)
                 obtain ⟨ad207, e207, hx207_0⟩ := Kd.at_string (Kd.R_reads' HO_5.out).2.2 (ji69) p207 q207
                 cases e207
                 replace p207 := eq_true p207
                 replace q207 := eq_true q207
                 go_wp2_with (first|((with_reducible refine gate_callee (f := 36) rfl ?_); refine goesL_ (some 86) rfl rfl Tryz.func36 (by kernel_rfl) rfl #[.string (rdOf ByteArray.empty t194 (ji69))] rfl (by (try simp only [List.map_toArray, List.map_cons, List.map_nil]); first | done|(simp only [hji69]; rfl)|rfl|(simp only [List.length_drop, List.length_take]; rfl)) ?_; (with_reducible refine (curtilageref10_register.calls k3 (rdOf ByteArray.empty t194 (ji69)) t208 _ A72.out).mono ?_); rintro e w86 ⟨rfl, hb⟩; refine ⟨_, rfl, ?_⟩; have n0_ := Q4 (Kd.R_below (rK HO_5) hb); have n1_ := Q4 (Qo (g := gb191) (o := .cells #[.string x192000_3, .int .i64 x192001_3, .int .i64 x192002_3, .int .i64 x192003_3, .int .i64 x192004_3, .int .i32 x192005_3, .string x192006_3] 40 (0, 0)) (bK BK191) hb); have n2_ := Q4 (Qo (g := gb197) (o := .cells #[.string (⟨#[]⟩ : ByteArray), .int .i64 x198001_2, .int .i64 x198002_3, .int .i64 x198003_3, .int .i64 x198004_3, .int .i32 x198005_3, .string x198006_3] 40 (0, 0)) (bK BK197) hb); have n3_ := Q4 (Qg (by repeat (first|(with_reducible first|exact HB.out|apply Q8|apply Q5|apply Q9|refine Q6 ?_ GE191.out|refine Q6 ?_ GE197.out)|exact HB.out)) hb); clear HO_5; clear BK191; clear BK197; clear HB; have HO_5 := n0_; have BK191 := n1_; have BK197 := n2_; have HB := n3_; clear n0_ n1_ n2_ n3_;(try clear hb);(try clear hb2);(try clear hk);(try clear hi); have p74 : 0 ≤ (x10_3 : Int) := Qc (by first|(with_reducible assumption)|assumption); have q74 : x10_3 < (t204.size : Int) := Qc (by first|(with_reducible assumption)|assumption); have hx74 := bt_at t204 x10_3; replace p74 := eq_true p74; replace q74 := eq_true q74; have p79 : 0 ≤ (x10_3 : Int) := Qc (by first|(with_reducible assumption)|assumption); have q79 : x10_3 < (t204.size : Int) := Qc (by first|(with_reducible assumption)|assumption); have hx79 := bt_at t204 x10_3; replace p79 := eq_true p79; replace q79 := eq_true q79; have p84 : 0 ≤ (x10_3 : Int) := Qc (by first|(with_reducible assumption)|assumption); have q84 : x10_3 < (t204.size : Int) := Qc (by first|(with_reducible assumption)|assumption); have hx84 := bt_at t204 x10_3; replace p84 := eq_true p84; replace q84 := eq_true q84; have hnb87 := NB197_191.out; have hnc87 := NB191_197.out; have hcz88_0 : w86.cell? ⟨gb197, 0, none⟩ = some (.string (⟨#[]⟩ : ByteArray)) := (Qe BK197.out 0).trans rfl; have hcz88_1 : w86.cell? ⟨gb197, 1, none⟩ = some (.int .i64 x198001_2) := (Qe BK197.out 1).trans rfl; have hcz88_2 : w86.cell? ⟨gb197, 2, none⟩ = some (.int .i64 x198002_3) := (Qe BK197.out 2).trans rfl; have hcz88_3 : w86.cell? ⟨gb197, 3, none⟩ = some (.int .i64 x198003_3) := (Qe BK197.out 3).trans rfl; have hcz88_4 : w86.cell? ⟨gb197, 4, none⟩ = some (.int .i64 x198004_3) := (Qe BK197.out 4).trans rfl; have hcz88_5 : w86.cell? ⟨gb197, 5, none⟩ = some (.int .i32 x198005_3) := (Qe BK197.out 5).trans rfl; have hcz88_6 : w86.cell? ⟨gb197, 6, none⟩ = some (.string x198006_3) := (Qe BK197.out 6).trans rfl; have hfz88_0 := Qd BK197.out 0; have hfz88_1 := Qd BK197.out 1; have hfz88_2 := Qd BK197.out 2; have hfz88_3 := Qd BK197.out 3; have hfz88_4 := Qd BK197.out 4; have hfz88_5 := Qd BK197.out 5; have hfz88_6 := Qd BK197.out 6))
                 go_roundg k3
                 case measure => have := HJ1.out; have := HK2.out; have := HK3.out; omega
                 case rel => exact ⟨(ji69), (x192000_3), (x192001_3), (x192002_3), (x192003_3), (x192004_3), (x192005_3), (x192006_3), (x198002_3), (x198003_3), (t208), (x198005_3), (x198006_3), (by first|rfl|(simp; done)|(simp only [← hji69] <;> (first|rfl | simp))|(simp [*]; done)), H', ⟨by have := HJ1.out; have := HK2.out; have := HK3.out; omega⟩, ⟨by (with_reducible repeat (first|apply Kd.R_alloc|apply Kd.R_drewN|apply Kd.R_drew)); exact Kd.R_mono (Kd.R_far (p := ⟨gb197, 4, none⟩) (Kd.R_types HO_5.out BK197.out (by decide)) (fun _ hk => hk.2) (.int .i64 t208)) (fun _ hk => trivial)⟩, ⟨by (with_reducible repeat (first|refine Qa ?_ _|refine Qb ?_|refine Q7 ?_ _)); refine blk_far ?_ NB191_197.out _; (with_reducible repeat (first|refine Qa ?_ _|refine Qb ?_|refine Q7 ?_ _)); exact BK191.out⟩, ⟨by (with_reducible repeat (first|refine Qa ?_ _|refine Qb ?_|refine Q7 ?_ _)); refine blk_put (cs := #[.string (⟨#[]⟩ : ByteArray), .int .i64 x198001_2, .int .i64 x198002_3, .int .i64 x198003_3, .int .i64 x198004_3, .int .i32 x198005_3, .string x198006_3]) ?_ 4 _ rfl; (with_reducible repeat (first|refine Qa ?_ _|refine Qb ?_|refine Q7 ?_ _)); exact BK197.out⟩, ⟨by repeat (first|(with_reducible first|exact HB.out|apply Q8|apply Q5|apply Q9|refine Q6 ?_ GE191.out|refine Q6 ?_ GE197.out)|exact HB.out)⟩⟩
                ·rw [if_neg c85] at H
                 have c85b0 : ((bt t204 x10_3) == 99) = false := Qk c85
                 have c85b1 : ((bt t204 x10_3) != 99) = true := Ql c85
                 have HC89 := Q4 H
                 clear H
                 have p207 : 0 ≤ ((ji69) : Int) := Qc (by first|(with_reducible assumption)|assumption)
                 have q207 : (ji69) < (t194.length : Int) := Qc (by first|(with_reducible assumption)|assumption)
                 obtain ⟨ad207, e207, hx207_0⟩ := Kd.at_string (Kd.R_reads' HO_5.out).2.2 (ji69) p207 q207
                 cases e207
                 replace p207 := eq_true p207
                 replace q207 := eq_true q207
                 go_upto_region 30 with (first|((with_reducible refine gate_callee (f := 36) rfl ?_); refine goesL_ (some 86) rfl rfl Tryz.func36 (by kernel_rfl) rfl #[.string (rdOf ByteArray.empty t194 (ji69))] rfl (by (try simp only [List.map_toArray, List.map_cons, List.map_nil]); first | done|(simp only [hji69]; rfl)|rfl|(simp only [List.length_drop, List.length_take]; rfl)) ?_; (with_reducible refine (curtilageref10_register.calls k3 (rdOf ByteArray.empty t194 (ji69)) t208 _ A72.out).mono ?_); rintro e w90 ⟨rfl, hb⟩; refine ⟨_, rfl, ?_⟩; have n0_ := Q4 (Kd.R_below (rK HO_5) hb); have n1_ := Q4 (Qo (g := gb191) (o := .cells #[.string x192000_3, .int .i64 x192001_3, .int .i64 x192002_3, .int .i64 x192003_3, .int .i64 x192004_3, .int .i32 x192005_3, .string x192006_3] 40 (0, 0)) (bK BK191) hb); have n2_ := Q4 (Qo (g := gb197) (o := .cells #[.string (⟨#[]⟩ : ByteArray), .int .i64 x198001_2, .int .i64 x198002_3, .int .i64 x198003_3, .int .i64 x198004_3, .int .i32 x198005_3, .string x198006_3] 40 (0, 0)) (bK BK197) hb); have n3_ := Q4 (Qg (by repeat (first|(with_reducible first|exact HB.out|apply Q8|apply Q5|apply Q9|refine Q6 ?_ GE191.out|refine Q6 ?_ GE197.out)|exact HB.out)) hb); clear HO_5; clear BK191; clear BK197; clear HB; have HO_5 := n0_; have BK191 := n1_; have BK197 := n2_; have HB := n3_; clear n0_ n1_ n2_ n3_;(try clear hb);(try clear hb2);(try clear hk);(try clear hi); have p74 : 0 ≤ (x10_3 : Int) := Qc (by first|(with_reducible assumption)|assumption); have q74 : x10_3 < (t204.size : Int) := Qc (by first|(with_reducible assumption)|assumption); have hx74 := bt_at t204 x10_3; replace p74 := eq_true p74; replace q74 := eq_true q74; have p79 : 0 ≤ (x10_3 : Int) := Qc (by first|(with_reducible assumption)|assumption); have q79 : x10_3 < (t204.size : Int) := Qc (by first|(with_reducible assumption)|assumption); have hx79 := bt_at t204 x10_3; replace p79 := eq_true p79; replace q79 := eq_true q79; have p84 : 0 ≤ (x10_3 : Int) := Qc (by first|(with_reducible assumption)|assumption); have q84 : x10_3 < (t204.size : Int) := Qc (by first|(with_reducible assumption)|assumption); have hx84 := bt_at t204 x10_3; replace p84 := eq_true p84; replace q84 := eq_true q84))
                 (try simp only [Act.put, Q1,Q2,Q3])
                 go_cut [122] (fun v122 wc => ∃ (kq : Nat) (x122_88 : Bool), v122 = .bool x122_88 ∧ Aside0 (curtilageref10_read.j3 kq a0 t194 t204 x10_3 (rdOf ByteArray.empty t194 (ji69)) x122_88 (⟨#[]⟩ : ByteArray) x198001_2 x198002_3 x198003_3 x198004_3 x198005_3 x198006_3 = some (r1, r2, r3, r4, r5, r6, r7, r8)) ∧ Aside0 (kq ≤ k3) ∧ Aside0 (Kd.R Kd.string 9 wc w.heap.size (fun _ => True) (.slice (some ad207) t194.length co67) t194) ∧ Aside0 (wc.heap[gb191]? = some (.cells #[.string x192000_3, .int .i64 x192001_3, .int .i64 x192002_3, .int .i64 x192003_3, .int .i64 x192004_3, .int .i32 x192005_3, .string x192006_3] 40 (0, 0))) ∧ Aside0 (wc.heap[gb197]? = some (.cells #[.string (⟨#[]⟩ : ByteArray), .int .i64 x198001_2, .int .i64 x198002_3, .int .i64 x198003_3, .int .i64 x198004_3, .int .i32 x198005_3, .string x198006_3] 40 (0, 0))) ∧ Aside0 (Below w.heap.size w wc))
                 case first =>
                  have H := HC89.out
                  clear HC89
                  by_cases c91 : (rdOf ByteArray.empty t194 (ji69)).toList = ([] : List UInt8)
                  ·rw [if_pos c91] at H
                   have c91b0 : ((rdOf ByteArray.empty t194 (ji69)).toList == ([] : List UInt8)) = true := Qm c91
                   have c91b1 : ((rdOf ByteArray.empty t194 (ji69)).toList != ([] : List UInt8)) = false := Qh c91
                   clear c91
                   (first | rw [c91b0]|(simp only [i64_w, i32_w]; rw [c91b0])|skip)
                   have H' := Q4 H
                   clear H
                   go_wp2
                   go_meet
                   case rel => exact ⟨_, (false), (by first|rfl|(simp; done)|(simp [*]; done)), H', ⟨by have := HJ1.out; have := HK2.out; have := HK3.out; first|omega|exact Nat.le_refl _⟩, ⟨by (with_reducible repeat (first|apply Kd.R_alloc|apply Kd.R_drewN|apply Kd.R_drew)); exact HO_5.out⟩, ⟨by (with_reducible repeat (first|refine Qa ?_ _|refine Qb ?_|refine Q7 ?_ _)); exact BK191.out⟩, ⟨by (with_reducible repeat (first|refine Qa ?_ _|refine Qb ?_|refine Q7 ?_ _)); exact BK197.out⟩, ⟨by repeat (first|(with_reducible first|exact HB.out|apply Q8|apply Q5|apply Q9|refine Q6 ?_ GE191.out|refine Q6 ?_ GE197.out)|exact HB.out)⟩⟩
                  ·rw [if_neg c91] at H
                   have c91b0 : ((rdOf ByteArray.empty t194 (ji69)).toList == ([] : List UInt8)) = false := Qk c91
                   have c91b1 : ((rdOf ByteArray.empty t194 (ji69)).toList != ([] : List UInt8)) = true := Ql c91
                   (first | rw [c91b0]|(simp only [i64_w, i32_w]; rw [c91b0])|skip)
                   by_cases c92 : 0 < ((rdOf ByteArray.empty t194 (ji69)).size : Int)
                   ·rw [if_pos c92] at H
                    have c92b0 : decide (0 < ((rdOf ByteArray.empty t194 (ji69)).size : Int)) = true := Qj c92
                    have c92b1 : decide (0 < (rdOf ByteArray.empty t194 (ji69)).size) = true := Qj (by omega)
                    clear c92
                    have H' := Q4 H
                    clear H
                    have p93 : 0 ≤ (0 : Int) := (by omega)
                    have q93 : 0 < (rdOf ByteArray.empty t194 (ji69)).size := (by have : (0 : Int) < ((rdOf ByteArray.empty t194 (ji69)).size : Int) := Qc (by first|(with_reducible assumption)|assumption); omega)
                    have hx93 : ∀ h : 0 < (rdOf ByteArray.empty t194 (ji69)).size, (((rdOf ByteArray.empty t194 (ji69))[0]'h).toNat : Int) = bt (rdOf ByteArray.empty t194 (ji69)) 0 := bt_at (rdOf ByteArray.empty t194 (ji69)) 0
                    clear p93
                    have qi93 : (0 < ((rdOf ByteArray.empty t194 (ji69)).size : Int)) = True := eq_true (Qc (by first|(with_reducible assumption)|assumption))
                    replace q93 := eq_true q93
                    go_wp2
                    go_meet
                    case rel => exact ⟨_, (((bt (rdOf ByteArray.empty t194 (ji69)) 0) == 64)), (by first|rfl|(simp; done)|(simp only [← hji69] <;> (first|rfl | simp))|(simp [*]; done)), H', ⟨by have := HJ1.out; have := HK2.out; have := HK3.out; first|omega|exact Nat.le_refl _⟩, ⟨by (with_reducible repeat (first|apply Kd.R_alloc|apply Kd.R_drewN|apply Kd.R_drew)); exact HO_5.out⟩, ⟨by (with_reducible repeat (first|refine Qa ?_ _|refine Qb ?_|refine Q7 ?_ _)); exact BK191.out⟩, ⟨by (with_reducible repeat (first|refine Qa ?_ _|refine Qb ?_|refine Q7 ?_ _)); exact BK197.out⟩, ⟨by repeat (first|(with_reducible first|exact HB.out|apply Q8|apply Q5|apply Q9|refine Q6 ?_ GE191.out|refine Q6 ?_ GE197.out)|exact HB.out)⟩⟩
                   ·rw [if_neg c92] at H
                    exact absurd H (by simp)
                 case rest =>
                  clear HC89
                  (try clear c1);(try clear c2);(try clear p2);(try clear q2);(try clear hx2);(try clear qi2);(try clear c3);(try clear c4);(try clear c4b0);(try clear c4b1);(try clear c5);(try clear c6);(try clear c6b0);(try clear p6);(try clear c7);(try clear c7b0);(try clear p7);(try clear q7);(try clear hx7);(try clear c8);(try clear p8);(try clear q8);(try clear hx8);(try clear c9);(try clear p9);(try clear q9);(try clear hx9);(try clear qi9);(try clear c11);(try clear c11b0);(try clear c11b1);(try clear c12);(try clear c12b0);(try clear c12b1);(try clear c13);(try clear c13b0);(try clear c13b1);(try clear c15);(try clear c16);(try clear p20);(try clear q20);(try clear hx20);(try clear qi20);(try clear c21);(try clear c28);(try clear c33);(try clear c34);(try clear c35);(try clear c36);(try clear c43);(try clear c45);(try clear c45b0);(try clear c48);(try clear c48b0);(try clear c48b1);(try clear c49);(try clear c49b0);(try clear c49b1);(try clear c50);(try clear c50b0);(try clear c50b1);(try clear c56);(try clear c64);(try clear c64b0);(try clear c64b1);(try clear p64);(try clear c65);(try clear c68);(try clear c68b0);(try clear c70);(try clear c70b0);(try clear c71);(try clear c71b0);(try clear c73);(try clear c73b0);(try clear p74);(try clear q74);(try clear hx74);(try clear c75);(try clear c75b0);(try clear c75b1);(try clear c77);(try clear p79);(try clear q79);(try clear hx79);(try clear c80);(try clear c80b0);(try clear c80b1);(try clear c82);(try clear p84);(try clear q84);(try clear hx84);(try clear c85);(try clear c85b0);(try clear c85b1);(try clear c87);(try clear c91);(try clear c91b0);(try clear c91b1);(try clear c92);(try clear c92b0);(try clear c92b1);(try clear p93);(try clear q93);(try clear hx93);(try clear qi93);(try clear hcz16_0);(try clear hcz16_1);(try clear hcz16_2);(try clear hcz16_3);(try clear hcz16_4);(try clear hcz16_5);(try clear hcz16_6);(try clear hcz29_0);(try clear hcz29_1);(try clear hcz29_2);(try clear hcz29_3);(try clear hcz29_4);(try clear hcz29_5);(try clear hcz29_6);(try clear hcz44_0);(try clear hcz44_1);(try clear hcz44_2);(try clear hcz44_3);(try clear hcz44_4);(try clear hcz44_5);(try clear hcz44_6);(try clear hcz57_0);(try clear hcz57_1);(try clear hcz57_2);(try clear hcz57_3);(try clear hcz57_4);(try clear hcz57_5);(try clear hcz57_6);(try clear hcz66_0);(try clear hcz66_1);(try clear hcz66_2);(try clear hcz66_3);(try clear hcz66_4);(try clear hcz66_5);(try clear hcz66_6);(try clear hcz78_0);(try clear hcz78_1);(try clear hcz78_2);(try clear hcz78_3);(try clear hcz78_4);(try clear hcz78_5);(try clear hcz78_6);(try clear hcz83_0);(try clear hcz83_1);(try clear hcz83_2);(try clear hcz83_3);(try clear hcz83_4);(try clear hcz83_5);(try clear hcz83_6);(try clear hcz88_0);(try clear hcz88_1);(try clear hcz88_2);(try clear hcz88_3);(try clear hcz88_4);(try clear hcz88_5);(try clear hcz88_6);(try clear hfz16_0);(try clear hfz16_1);(try clear hfz16_2);(try clear hfz16_3);(try clear hfz16_4);(try clear hfz16_5);(try clear hfz16_6);(try clear hfz29_0);(try clear hfz29_1);(try clear hfz29_2);(try clear hfz29_3);(try clear hfz29_4);(try clear hfz29_5);(try clear hfz29_6);(try clear hfz44_0);(try clear hfz44_1);(try clear hfz44_2);(try clear hfz44_3);(try clear hfz44_4);(try clear hfz44_5);(try clear hfz44_6);(try clear hfz57_0);(try clear hfz57_1);(try clear hfz57_2);(try clear hfz57_3);(try clear hfz57_4);(try clear hfz57_5);(try clear hfz57_6);(try clear hfz66_0);(try clear hfz66_1);(try clear hfz66_2);(try clear hfz66_3);(try clear hfz66_4);(try clear hfz66_5);(try clear hfz66_6);(try clear hfz78_0);(try clear hfz78_1);(try clear hfz78_2);(try clear hfz78_3);(try clear hfz78_4);(try clear hfz78_5);(try clear hfz78_6);(try clear hfz83_0);(try clear hfz83_1);(try clear hfz83_2);(try clear hfz83_3);(try clear hfz83_4);(try clear hfz83_5);(try clear hfz83_6);(try clear hfz88_0);(try clear hfz88_1);(try clear hfz88_2);(try clear hfz88_3);(try clear hfz88_4);(try clear hfz88_5);(try clear hfz88_6);(try clear hx202_0);(try clear hx203_0);(try clear hx207_0);(try clear p2);(try clear p20);(try clear p202);(try clear p203);(try clear p207);(try clear p6);(try clear p64);(try clear p74);(try clear p79);(try clear p8);(try clear p84);(try clear p93);(try clear q2);(try clear q20);(try clear q202);(try clear q203);(try clear q207);(try clear q74);(try clear q79);(try clear q8);(try clear q84);(try clear q93)
                  obtain ⟨kq, x122_88, rfl, HA, HJ88, HO_5, BK191, BK197, HB⟩ := hcut
                  cases kq with
                  | zero => exact absurd HA.out (by simp [curtilageref10_read.j3])
                  | succ kj88 =>
                   have H := HA.out
                   clear HA
                   simp only [curtilageref10_read.j3] at H
                   by_cases c94 : x122_88 = true
                   ·subst c94
                    rw [if_pos rfl] at H
                    by_cases c95 : 1 ≤ ((rdOf ByteArray.empty t194 (ji69)).size : Int)
                    ·rw [if_pos c95] at H
                     have c95b0 := eq_true c95
                     have c95b1 : decide (1 ≤ ((rdOf ByteArray.empty t194 (ji69)).size : Int)) = true := Qj c95
                     clear c95
                     replace H := Qi H
                     obtain ⟨⟨t209, t210, t211⟩, A960, H⟩ := H
                     try dsimp only at H
                     have A96 := Q4 A960
                     clear A960
                     by_cases c97 : t211 = true
                     ·subst c97
                      rw [if_pos rfl] at H
                      by_cases c98 : t209.toList = ([] : List UInt8)
                      ·rw [if_pos c98] at H
                       have c98b0 : (t209.toList == ([] : List UInt8)) = true := Qm c98
                       have c98b1 : (t209.toList != ([] : List UInt8)) = false := Qh c98
                       clear c98
                       simp only [Option.some.injEq, Prod.mk.injEq] at H
                       obtain ⟨rfl, rfl, rfl, rfl, rfl, rfl, rfl, rfl⟩ := H
                       go_wp2_with (first|((with_reducible refine gate_callee (f := 37) rfl ?_); refine goesL_ (some 133) rfl rfl Tryz.func37 (by kernel_rfl) rfl #[.string ((rdOf ByteArray.empty t194 (ji69)).extract 1 (rdOf ByteArray.empty t194 (ji69)).size)] rfl (by (try simp only [List.map_toArray, List.map_cons, List.map_nil]); first | done|(simp only [hji69]; rfl)|rfl|(simp only [List.length_drop, List.length_take]; rfl)) ?_; (with_reducible refine (curtilageref10_target.calls kj88 ((rdOf ByteArray.empty t194 (ji69)).extract 1 (rdOf ByteArray.empty t194 (ji69)).size) t209 t210 true _ A96.out).mono ?_); rintro e w99 ⟨rfl, hb⟩; refine ⟨_, rfl, ?_⟩; have n0_ := Q4 (Kd.R_below (rK HO_5) hb); have n1_ := Q4 (Qo (g := gb191) (o := .cells #[.string x192000_3, .int .i64 x192001_3, .int .i64 x192002_3, .int .i64 x192003_3, .int .i64 x192004_3, .int .i32 x192005_3, .string x192006_3] 40 (0, 0)) (bK BK191) hb); have n2_ := Q4 (Qo (g := gb197) (o := .cells #[.string (⟨#[]⟩ : ByteArray), .int .i64 x198001_2, .int .i64 x198002_3, .int .i64 x198003_3, .int .i64 x198004_3, .int .i32 x198005_3, .string x198006_3] 40 (0, 0)) (bK BK197) hb); have n3_ := Q4 (Qg (by repeat (first|(with_reducible first|exact HB.out|apply Q8|apply Q5|apply Q9|refine Q6 ?_ GE191.out|refine Q6 ?_ GE197.out)|exact HB.out)) hb); clear HO_5; clear BK191; clear BK197; clear HB; have HO_5 := n0_; have BK191 := n1_; have BK197 := n2_; have HB := n3_; clear n0_ n1_ n2_ n3_;(try clear hb);(try clear hb2);(try clear hk);(try clear hi); have hnb100 := NB197_191.out; have hnc100 := NB191_197.out; have hcz101_0 : w99.cell? ⟨gb197, 0, none⟩ = some (.string (⟨#[]⟩ : ByteArray)) := (Qe BK197.out 0).trans rfl; have hcz101_1 : w99.cell? ⟨gb197, 1, none⟩ = some (.int .i64 x198001_2) := (Qe BK197.out 1).trans rfl; have hcz101_2 : w99.cell? ⟨gb197, 2, none⟩ = some (.int .i64 x198002_3) := (Qe BK197.out 2).trans rfl; have hcz101_3 : w99.cell? ⟨gb197, 3, none⟩ = some (.int .i64 x198003_3) := (Qe BK197.out 3).trans rfl; have hcz101_4 : w99.cell? ⟨gb197, 4, none⟩ = some (.int .i64 x198004_3) := (Qe BK197.out 4).trans rfl; have hcz101_5 : w99.cell? ⟨gb197, 5, none⟩ = some (.int .i32 x198005_3) := (Qe BK197.out 5).trans rfl; have hcz101_6 : w99.cell? ⟨gb197, 6, none⟩ = some (.string x198006_3) := (Qe BK197.out 6).trans rfl; have hfz101_0 := Qd BK197.out 0; have hfz101_1 := Qd BK197.out 1; have hfz101_2 := Qd BK197.out 2; have hfz101_3 := Qd BK197.out 3; have hfz101_4 := Qd BK197.out 4; have hfz101_5 := Qd BK197.out 5; have hfz101_6 := Qd BK197.out 6; have hcz102_0 : w99.cell? ⟨gb191, 0, none⟩ = some (.string x192000_3) := (Qe BK191.out 0).trans rfl; have hcz102_1 : w99.cell? ⟨gb191, 1, none⟩ = some (.int .i64 x192001_3) := (Qe BK191.out 1).trans rfl; have hcz102_2 : w99.cell? ⟨gb191, 2, none⟩ = some (.int .i64 x192002_3) := (Qe BK191.out 2).trans rfl; have hcz102_3 : w99.cell? ⟨gb191, 3, none⟩ = some (.int .i64 x192003_3) := (Qe BK191.out 3).trans rfl; have hcz102_4 : w99.cell? ⟨gb191, 4, none⟩ = some (.int .i64 x192004_3) := (Qe BK191.out 4).trans rfl; have hcz102_5 : w99.cell? ⟨gb191, 5, none⟩ = some (.int .i32 x192005_3) := (Qe BK191.out 5).trans rfl; have hcz102_6 : w99.cell? ⟨gb191, 6, none⟩ = some (.string x192006_3) := (Qe BK191.out 6).trans rfl; have hfz102_0 := Qd BK191.out 0; have hfz102_1 := Qd BK191.out 1; have hfz102_2 := Qd BK191.out 2; have hfz102_3 := Qd BK191.out 3; have hfz102_4 := Qd BK191.out 4; have hfz102_5 := Qd BK191.out 5; have hfz102_6 := Qd BK191.out 6))
                       refine bodyPost_ret (results_ct rfl _ _ gb191 40 #[.string (⟨#[]⟩ : ByteArray), .int .i64 x198001_2, .int .i64 x198002_3, .int .i64 x198003_3, .int .i64 x198004_3, .int .i32 t210, .string t209] (0, 0) _ rfl (by (with_reducible repeat (first|refine Qa ?_ _|refine Qb ?_|refine Q7 ?_ _)); refine blk_put (cs := #[.string (⟨#[]⟩ : ByteArray), .int .i64 x198001_2, .int .i64 x198002_3, .int .i64 x198003_3, .int .i64 x198004_3, .int .i32 t210, .string x192006_3]) ?_ 6 _ rfl; (with_reducible repeat (first|refine Qa ?_ _|refine Qb ?_|refine Q7 ?_ _)); refine blk_put (cs := #[.string (⟨#[]⟩ : ByteArray), .int .i64 x198001_2, .int .i64 x198002_3, .int .i64 x198003_3, .int .i64 x198004_3, .int .i32 x192005_3, .string x192006_3]) ?_ 5 _ rfl; (with_reducible repeat (first|refine Qa ?_ _|refine Qb ?_|refine Q7 ?_ _)); refine blk_put (cs := #[.string (⟨#[]⟩ : ByteArray), .int .i64 x198001_2, .int .i64 x198002_3, .int .i64 x198003_3, .int .i64 x192004_3, .int .i32 x192005_3, .string x192006_3]) ?_ 4 _ rfl; (with_reducible repeat (first|refine Qa ?_ _|refine Qb ?_|refine Q7 ?_ _)); refine blk_put (cs := #[.string (⟨#[]⟩ : ByteArray), .int .i64 x198001_2, .int .i64 x198002_3, .int .i64 x192003_3, .int .i64 x192004_3, .int .i32 x192005_3, .string x192006_3]) ?_ 3 _ rfl; (with_reducible repeat (first|refine Qa ?_ _|refine Qb ?_|refine Q7 ?_ _)); refine blk_put (cs := #[.string (⟨#[]⟩ : ByteArray), .int .i64 x198001_2, .int .i64 x192002_3, .int .i64 x192003_3, .int .i64 x192004_3, .int .i32 x192005_3, .string x192006_3]) ?_ 2 _ rfl; (with_reducible repeat (first|refine Qa ?_ _|refine Qb ?_|refine Q7 ?_ _)); refine blk_put (cs := #[.string (⟨#[]⟩ : ByteArray), .int .i64 x192001_3, .int .i64 x192002_3, .int .i64 x192003_3, .int .i64 x192004_3, .int .i32 x192005_3, .string x192006_3]) ?_ 1 _ rfl; (with_reducible repeat (first|refine Qa ?_ _|refine Qb ?_|refine Q7 ?_ _)); refine blk_put (cs := #[.string x192000_3, .int .i64 x192001_3, .int .i64 x192002_3, .int .i64 x192003_3, .int .i64 x192004_3, .int .i32 x192005_3, .string x192006_3]) ?_ 0 _ rfl; (with_reducible repeat (first|refine Qa ?_ _|refine Qb ?_|refine Q7 ?_ _)); refine blk_far ?_ NB191_197.out _; (with_reducible repeat (first|refine Qa ?_ _|refine Qb ?_|refine Q7 ?_ _)); refine blk_far ?_ NB191_197.out _; (with_reducible repeat (first|refine Qa ?_ _|refine Qb ?_|refine Q7 ?_ _)); exact BK191.out) Tryz.underlying40 rfl (by kernel_rfl)) rfl ?_
                       exact ⟨by first|rfl|(simp [errW_none, errW_some] <;> rfl)|(simp only [← hji69]; first|rfl|(simp [errW_none, errW_some] <;> rfl))|(simp [*, errW_none, errW_some] <;> rfl), by repeat (first|(with_reducible first|exact HB.out|apply Q8|apply Q5|apply Q9|refine Q6 ?_ GE191.out|refine Q6 ?_ GE197.out)|exact HB.out)⟩
                      ·rw [if_neg c98] at H
                       have c98b0 : (t209.toList == ([] : List UInt8)) = false := Qk c98
                       have c98b1 : (t209.toList != ([] : List UInt8)) = true := Ql c98
                       have H' := Q4 H
                       clear H
                       go_wp2_with (first|((with_reducible refine gate_callee (f := 37) rfl ?_); refine goesL_ (some 133) rfl rfl Tryz.func37 (by kernel_rfl) rfl #[.string ((rdOf ByteArray.empty t194 (ji69)).extract 1 (rdOf ByteArray.empty t194 (ji69)).size)] rfl (by (try simp only [List.map_toArray, List.map_cons, List.map_nil]); first | done|(simp only [hji69]; rfl)|rfl|(simp only [List.length_drop, List.length_take]; rfl)) ?_; (with_reducible refine (curtilageref10_target.calls kj88 ((rdOf ByteArray.empty t194 (ji69)).extract 1 (rdOf ByteArray.empty t194 (ji69)).size) t209 t210 true _ A96.out).mono ?_); rintro e w103 ⟨rfl, hb⟩; refine ⟨_, rfl, ?_⟩; have n0_ := Q4 (Kd.R_below (rK HO_5) hb); have n1_ := Q4 (Qo (g := gb191) (o := .cells #[.string x192000_3, .int .i64 x192001_3, .int .i64 x192002_3, .int .i64 x192003_3, .int .i64 x192004_3, .int .i32 x192005_3, .string x192006_3] 40 (0, 0)) (bK BK191) hb); have n2_ := Q4 (Qo (g := gb197) (o := .cells #[.string (⟨#[]⟩ : ByteArray), .int .i64 x198001_2, .int .i64 x198002_3, .int .i64 x198003_3, .int .i64 x198004_3, .int .i32 x198005_3, .string x198006_3] 40 (0, 0)) (bK BK197) hb); have n3_ := Q4 (Qg (by repeat (first|(with_reducible first|exact HB.out|apply Q8|apply Q5|apply Q9|refine Q6 ?_ GE191.out|refine Q6 ?_ GE197.out)|exact HB.out)) hb); clear HO_5; clear BK191; clear BK197; clear HB; have HO_5 := n0_; have BK191 := n1_; have BK197 := n2_; have HB := n3_; clear n0_ n1_ n2_ n3_;(try clear hb);(try clear hb2);(try clear hk);(try clear hi); have hnb104 := NB197_191.out; have hnc104 := NB191_197.out; have hcz105_0 : w103.cell? ⟨gb197, 0, none⟩ = some (.string (⟨#[]⟩ : ByteArray)) := (Qe BK197.out 0).trans rfl; have hcz105_1 : w103.cell? ⟨gb197, 1, none⟩ = some (.int .i64 x198001_2) := (Qe BK197.out 1).trans rfl; have hcz105_2 : w103.cell? ⟨gb197, 2, none⟩ = some (.int .i64 x198002_3) := (Qe BK197.out 2).trans rfl; have hcz105_3 : w103.cell? ⟨gb197, 3, none⟩ = some (.int .i64 x198003_3) := (Qe BK197.out 3).trans rfl; have hcz105_4 : w103.cell? ⟨gb197, 4, none⟩ = some (.int .i64 x198004_3) := (Qe BK197.out 4).trans rfl; have hcz105_5 : w103.cell? ⟨gb197, 5, none⟩ = some (.int .i32 x198005_3) := (Qe BK197.out 5).trans rfl; have hcz105_6 : w103.cell? ⟨gb197, 6, none⟩ = some (.string x198006_3) := (Qe BK197.out 6).trans rfl; have hfz105_0 := Qd BK197.out 0; have hfz105_1 := Qd BK197.out 1; have hfz105_2 := Qd BK197.out 2; have hfz105_3 := Qd BK197.out 3; have hfz105_4 := Qd BK197.out 4; have hfz105_5 := Qd BK197.out 5; have hfz105_6 := Qd BK197.out 6))
                       go_roundg kj88
                       case measure => have := HJ1.out; have := HK2.out; have := HK3.out; have := HJ88.out; omega
                       case rel => exact ⟨(wrap64 (x10_3 + 1)), (x192000_3), (x192001_3), (x192002_3), (x192003_3), (x192004_3), (x192005_3), (x192006_3), (x198002_3), (x198003_3), (x198004_3), (t210), (t209), (by first|rfl|(simp; done)|(simp [*]; done)), H', ⟨by have := HJ1.out; have := HK2.out; have := HK3.out; have := HJ88.out; omega⟩, ⟨by (with_reducible repeat (first|apply Kd.R_alloc|apply Kd.R_drewN|apply Kd.R_drew)); exact Kd.R_mono (Kd.R_far (p := ⟨gb197, 5, none⟩) (Kd.R_far (p := ⟨gb197, 6, none⟩) (Kd.R_types HO_5.out BK197.out (by decide)) (fun _ hk => hk.2) (.string t209)) (fun _ hk => hk.2) (.int .i32 t210)) (fun _ hk => trivial)⟩, ⟨by (with_reducible repeat (first|refine Qa ?_ _|refine Qb ?_|refine Q7 ?_ _)); refine blk_far ?_ NB191_197.out _; (with_reducible repeat (first|refine Qa ?_ _|refine Qb ?_|refine Q7 ?_ _)); refine blk_far ?_ NB191_197.out _; (with_reducible repeat (first|refine Qa ?_ _|refine Qb ?_|refine Q7 ?_ _)); exact BK191.out⟩, ⟨by (with_reducible repeat (first|refine Qa ?_ _|refine Qb ?_|refine Q7 ?_ _)); refine blk_put (cs := #[.string (⟨#[]⟩ : ByteArray), .int .i64 x198001_2, .int .i64 x198002_3, .int .i64 x198003_3, .int .i64 x198004_3, .int .i32 x198005_3, .string t209]) ?_ 5 _ rfl; (with_reducible repeat (first|refine Qa ?_ _|refine Qb ?_|refine Q7 ?_ _)); refine blk_put (cs := #[.string (⟨#[]⟩ : ByteArray), .int .i64 x198001_2, .int .i64 x198002_3, .int .i64 x198003_3, .int .i64 x198004_3, .int .i32 x198005_3, .string x198006_3]) ?_ 6 _ rfl; (with_reducible repeat (first|refine Qa ?_ _|refine Qb ?_|refine Q7 ?_ _)); exact BK197.out⟩, ⟨by repeat (first|(with_reducible first|exact HB.out|apply Q8|apply Q5|apply Q9|refine Q6 ?_ GE191.out|refine Q6 ?_ GE197.out)|exact HB.out)⟩⟩
                     ·replace c97 := Bool.eq_false_iff.mpr c97
                      subst c97
                      rw [if_neg (show ¬ (false = true) by decide)] at H
                      simp only [Option.some.injEq, Prod.mk.injEq] at H
                      obtain ⟨rfl, rfl, rfl, rfl, rfl, rfl, rfl, rfl⟩ := H
                      go_wp2_with (first|((with_reducible refine gate_callee (f := 37) rfl ?_); refine goesL_ (some 133) rfl rfl Tryz.func37 (by kernel_rfl) rfl #[.string ((rdOf ByteArray.empty t194 (ji69)).extract 1 (rdOf ByteArray.empty t194 (ji69)).size)] rfl (by (try simp only [List.map_toArray, List.map_cons, List.map_nil]); first | done|(simp only [hji69]; rfl)|rfl|(simp only [List.length_drop, List.length_take]; rfl)) ?_; (with_reducible refine (curtilageref10_target.calls kj88 ((rdOf ByteArray.empty t194 (ji69)).extract 1 (rdOf ByteArray.empty t194 (ji69)).size) t209 t210 false _ A96.out).mono ?_); rintro e w106 ⟨rfl, hb⟩; refine ⟨_, rfl, ?_⟩; have n0_ := Q4 (Kd.R_below (rK HO_5) hb); have n1_ := Q4 (Qo (g := gb191) (o := .cells #[.string x192000_3, .int .i64 x192001_3, .int .i64 x192002_3, .int .i64 x192003_3, .int .i64 x192004_3, .int .i32 x192005_3, .string x192006_3] 40 (0, 0)) (bK BK191) hb); have n2_ := Q4 (Qo (g := gb197) (o := .cells #[.string (⟨#[]⟩ : ByteArray), .int .i64 x198001_2, .int .i64 x198002_3, .int .i64 x198003_3, .int .i64 x198004_3, .int .i32 x198005_3, .string x198006_3] 40 (0, 0)) (bK BK197) hb); have n3_ := Q4 (Qg (by repeat (first|(with_reducible first|exact HB.out|apply Q8|apply Q5|apply Q9|refine Q6 ?_ GE191.out|refine Q6 ?_ GE197.out)|exact HB.out)) hb); clear HO_5; clear BK191; clear BK197; clear HB; have HO_5 := n0_; have BK191 := n1_; have BK197 := n2_; have HB := n3_; clear n0_ n1_ n2_ n3_;(try clear hb);(try clear hb2);(try clear hk);(try clear hi); have hnb107 := NB197_191.out; have hnc107 := NB191_197.out; have hcz108_0 : w106.cell? ⟨gb197, 0, none⟩ = some (.string (⟨#[]⟩ : ByteArray)) := (Qe BK197.out 0).trans rfl; have hcz108_1 : w106.cell? ⟨gb197, 1, none⟩ = some (.int .i64 x198001_2) := (Qe BK197.out 1).trans rfl; have hcz108_2 : w106.cell? ⟨gb197, 2, none⟩ = some (.int .i64 x198002_3) := (Qe BK197.out 2).trans rfl; have hcz108_3 : w106.cell? ⟨gb197, 3, none⟩ = some (.int .i64 x198003_3) := (Qe BK197.out 3).trans rfl; have hcz108_4 : w106.cell? ⟨gb197, 4, none⟩ = some (.int .i64 x198004_3) := (Qe BK197.out 4).trans rfl; have hcz108_5 : w106.cell? ⟨gb197, 5, none⟩ = some (.int .i32 x198005_3) := (Qe BK197.out 5).trans rfl; have hcz108_6 : w106.cell? ⟨gb197, 6, none⟩ = some (.string x198006_3) := (Qe BK197.out 6).trans rfl; have hfz108_0 := Qd BK197.out 0; have hfz108_1 := Qd BK197.out 1; have hfz108_2 := Qd BK197.out 2; have hfz108_3 := Qd BK197.out 3; have hfz108_4 := Qd BK197.out 4; have hfz108_5 := Qd BK197.out 5; have hfz108_6 := Qd BK197.out 6; have hcz109_0 : w106.cell? ⟨gb191, 0, none⟩ = some (.string x192000_3) := (Qe BK191.out 0).trans rfl; have hcz109_1 : w106.cell? ⟨gb191, 1, none⟩ = some (.int .i64 x192001_3) := (Qe BK191.out 1).trans rfl; have hcz109_2 : w106.cell? ⟨gb191, 2, none⟩ = some (.int .i64 x192002_3) := (Qe BK191.out 2).trans rfl; have hcz109_3 : w106.cell? ⟨gb191, 3, none⟩ = some (.int .i64 x192003_3) := (Qe BK191.out 3).trans rfl; have hcz109_4 : w106.cell? ⟨gb191, 4, none⟩ = some (.int .i64 x192004_3) := (Qe BK191.out 4).trans rfl; have hcz109_5 : w106.cell? ⟨gb191, 5, none⟩ = some (.int .i32 x192005_3) := (Qe BK191.out 5).trans rfl; have hcz109_6 : w106.cell? ⟨gb191, 6, none⟩ = some (.string x192006_3) := (Qe BK191.out 6).trans rfl; have hfz109_0 := Qd BK191.out 0; have hfz109_1 := Qd BK191.out 1; have hfz109_2 := Qd BK191.out 2; have hfz109_3 := Qd BK191.out 3; have hfz109_4 := Qd BK191.out 4; have hfz109_5 := Qd BK191.out 5; have hfz109_6 := Qd BK191.out 6))
                      refine bodyPost_ret (results_ct rfl _ _ gb191 40 #[.string (⟨#[]⟩ : ByteArray), .int .i64 x198001_2, .int .i64 x198002_3, .int .i64 x198003_3, .int .i64 x198004_3, .int .i32 t210, .string t209] (0, 0) _ rfl (by (with_reducible repeat (first|refine Qa ?_ _|refine Qb ?_|refine Q7 ?_ _)); refine blk_put (cs := #[.string (⟨#[]⟩ : ByteArray), .int .i64 x198001_2, .int .i64 x198002_3, .int .i64 x198003_3, .int .i64 x198004_3, .int .i32 t210, .string x192006_3]) ?_ 6 _ rfl; (with_reducible repeat (first|refine Qa ?_ _|refine Qb ?_|refine Q7 ?_ _)); refine blk_put (cs := #[.string (⟨#[]⟩ : ByteArray), .int .i64 x198001_2, .int .i64 x198002_3, .int .i64 x198003_3, .int .i64 x198004_3, .int .i32 x192005_3, .string x192006_3]) ?_ 5 _ rfl; (with_reducible repeat (first|refine Qa ?_ _|refine Qb ?_|refine Q7 ?_ _)); refine blk_put (cs := #[.string (⟨#[]⟩ : ByteArray), .int .i64 x198001_2, .int .i64 x198002_3, .int .i64 x198003_3, .int .i64 x192004_3, .int .i32 x192005_3, .string x192006_3]) ?_ 4 _ rfl; (with_reducible repeat (first|refine Qa ?_ _|refine Qb ?_|refine Q7 ?_ _)); refine blk_put (cs := #[.string (⟨#[]⟩ : ByteArray), .int .i64 x198001_2, .int .i64 x198002_3, .int .i64 x192003_3, .int .i64 x192004_3, .int .i32 x192005_3, .string x192006_3]) ?_ 3 _ rfl; (with_reducible repeat (first|refine Qa ?_ _|refine Qb ?_|refine Q7 ?_ _)); refine blk_put (cs := #[.string (⟨#[]⟩ : ByteArray), .int .i64 x198001_2, .int .i64 x192002_3, .int .i64 x192003_3, .int .i64 x192004_3, .int .i32 x192005_3, .string x192006_3]) ?_ 2 _ rfl; (with_reducible repeat (first|refine Qa ?_ _|refine Qb ?_|refine Q7 ?_ _)); refine blk_put (cs := #[.string (⟨#[]⟩ : ByteArray), .int .i64 x192001_3, .int .i64 x192002_3, .int .i64 x192003_3, .int .i64 x192004_3, .int .i32 x192005_3, .string x192006_3]) ?_ 1 _ rfl; (with_reducible repeat (first|refine Qa ?_ _|refine Qb ?_|refine Q7 ?_ _)); refine blk_put (cs := #[.string x192000_3, .int .i64 x192001_3, .int .i64 x192002_3, .int .i64 x192003_3, .int .i64 x192004_3, .int .i32 x192005_3, .string x192006_3]) ?_ 0 _ rfl; (with_reducible repeat (first|refine Qa ?_ _|refine Qb ?_|refine Q7 ?_ _)); refine blk_far ?_ NB191_197.out _; (with_reducible repeat (first|refine Qa ?_ _|refine Qb ?_|refine Q7 ?_ _)); refine blk_far ?_ NB191_197.out _; (with_reducible repeat (first|refine Qa ?_ _|refine Qb ?_|refine Q7 ?_ _)); exact BK191.out) Tryz.underlying40 rfl (by kernel_rfl)) rfl ?_
                      exact ⟨by first|rfl|(simp [errW_none, errW_some] <;> rfl)|(simp only [← hji69]; first|rfl|(simp [errW_none, errW_some] <;> rfl))|(simp [*, errW_none, errW_some] <;> rfl), by repeat (first|(with_reducible first|exact HB.out|apply Q8|apply Q5|apply Q9|refine Q6 ?_ GE191.out|refine Q6 ?_ GE197.out)|exact HB.out)⟩
                    ·rw [if_neg c95] at H
                     exact absurd H (by simp)
                   ·replace c94 := Bool.eq_false_iff.mpr c94
                    subst c94
                    rw [if_neg (show ¬ (false = true) by decide)] at H
                    replace H := Qi H
                    obtain ⟨⟨t212, t213⟩, A1100, H⟩ := H
                    try dsimp only at H
                    have A110 := Q4 A1100
                    clear A1100
                    by_cases c111 : t213 = true
                    ·subst c111
                     rw [if_pos rfl] at H
                     have H' := Q4 H
                     clear H
                     go_wp2_with (first|((with_reducible refine gate_callee (f := 38) rfl ?_); refine goesL_ (some 89) rfl rfl Tryz.func38 (by kernel_rfl) rfl #[.string (rdOf ByteArray.empty t194 (ji69))] rfl (by (try simp only [List.map_toArray, List.map_cons, List.map_nil]); first | done|(simp only [hji69]; rfl)|rfl|(simp only [List.length_drop, List.length_take]; rfl)) ?_; (with_reducible refine (curtilageref10_number.calls kj88 (rdOf ByteArray.empty t194 (ji69)) t212 true _ A110.out).mono ?_); rintro e w112 ⟨rfl, hb⟩; refine ⟨_, rfl, ?_⟩; have n0_ := Q4 (Kd.R_below (rK HO_5) hb); have n1_ := Q4 (Qo (g := gb191) (o := .cells #[.string x192000_3, .int .i64 x192001_3, .int .i64 x192002_3, .int .i64 x192003_3, .int .i64 x192004_3, .int .i32 x192005_3, .string x192006_3] 40 (0, 0)) (bK BK191) hb); have n2_ := Q4 (Qo (g := gb197) (o := .cells #[.string (⟨#[]⟩ : ByteArray), .int .i64 x198001_2, .int .i64 x198002_3, .int .i64 x198003_3, .int .i64 x198004_3, .int .i32 x198005_3, .string x198006_3] 40 (0, 0)) (bK BK197) hb); have n3_ := Q4 (Qg (by repeat (first|(with_reducible first|exact HB.out|apply Q8|apply Q5|apply Q9|refine Q6 ?_ GE191.out|refine Q6 ?_ GE197.out)|exact HB.out)) hb); clear HO_5; clear BK191; clear BK197; clear HB; have HO_5 := n0_; have BK191 := n1_; have BK197 := n2_; have HB := n3_; clear n0_ n1_ n2_ n3_;(try clear hb);(try clear hb2);(try clear hk);(try clear hi); have hnb113 := NB197_191.out; have hnc113 := NB191_197.out; have hcz114_0 : w112.cell? ⟨gb197, 0, none⟩ = some (.string (⟨#[]⟩ : ByteArray)) := (Qe BK197.out 0).trans rfl; have hcz114_1 : w112.cell? ⟨gb197, 1, none⟩ = some (.int .i64 x198001_2) := (Qe BK197.out 1).trans rfl; have hcz114_2 : w112.cell? ⟨gb197, 2, none⟩ = some (.int .i64 x198002_3) := (Qe BK197.out 2).trans rfl; have hcz114_3 : w112.cell? ⟨gb197, 3, none⟩ = some (.int .i64 x198003_3) := (Qe BK197.out 3).trans rfl; have hcz114_4 : w112.cell? ⟨gb197, 4, none⟩ = some (.int .i64 x198004_3) := (Qe BK197.out 4).trans rfl; have hcz114_5 : w112.cell? ⟨gb197, 5, none⟩ = some (.int .i32 x198005_3) := (Qe BK197.out 5).trans rfl; have hcz114_6 : w112.cell? ⟨gb197, 6, none⟩ = some (.string x198006_3) := (Qe BK197.out 6).trans rfl; have hfz114_0 := Qd BK197.out 0; have hfz114_1 := Qd BK197.out 1; have hfz114_2 := Qd BK197.out 2; have hfz114_3 := Qd BK197.out 3; have hfz114_4 := Qd BK197.out 4; have hfz114_5 := Qd BK197.out 5; have hfz114_6 := Qd BK197.out 6))
                     go_roundg kj88
                     case measure => have := HJ1.out; have := HK2.out; have := HK3.out; have := HJ88.out; omega
                     case rel => exact ⟨(wrap64 (x10_3 + 1)), (x192000_3), (x192001_3), (x192002_3), (x192003_3), (x192004_3), (x192005_3), (x192006_3), (x198002_3), (x198003_3), (x198004_3), (t212), (x198006_3), (by first|rfl|(simp; done)|(simp [*]; done)), H', ⟨by have := HJ1.out; have := HK2.out; have := HK3.out; have := HJ88.out; omega⟩, ⟨by (with_reducible repeat (first|apply Kd.R_alloc|apply Kd.R_drewN|apply Kd.R_drew)); exact Kd.R_mono (Kd.R_far (p := ⟨gb197, 5, none⟩) (Kd.R_types HO_5.out BK197.out (by decide)) (fun _ hk => hk.2) (.int .i32 t212)) (fun _ hk => trivial)⟩, ⟨by (with_reducible repeat (first|refine Qa ?_ _|refine Qb ?_|refine Q7 ?_ _)); refine blk_far ?_ NB191_197.out _; (with_reducible repeat (first|refine Qa ?_ _|refine Qb ?_|refine Q7 ?_ _)); exact BK191.out⟩, ⟨by (with_reducible repeat (first|refine Qa ?_ _|refine Qb ?_|refine Q7 ?_ _)); refine blk_put (cs := #[.string (⟨#[]⟩ : ByteArray), .int .i64 x198001_2, .int .i64 x198002_3, .int .i64 x198003_3, .int .i64 x198004_3, .int .i32 x198005_3, .string x198006_3]) ?_ 5 _ rfl; (with_reducible repeat (first|refine Qa ?_ _|refine Qb ?_|refine Q7 ?_ _)); exact BK197.out⟩, ⟨by repeat (first|(with_reducible first|exact HB.out|apply Q8|apply Q5|apply Q9|refine Q6 ?_ GE191.out|refine Q6 ?_ GE197.out)|exact HB.out)⟩⟩
                    ·replace c111 := Bool.eq_false_iff.mpr c111
                     subst c111
                     rw [if_neg (show ¬ (false = true) by decide)] at H
                     simp only [Option.some.injEq, Prod.mk.injEq] at H
                     obtain ⟨rfl, rfl, rfl, rfl, rfl, rfl, rfl, rfl⟩ := H
                     go_wp2_with (first|((with_reducible refine gate_callee (f := 38) rfl ?_); refine goesL_ (some 89) rfl rfl Tryz.func38 (by kernel_rfl) rfl #[.string (rdOf ByteArray.empty t194 (ji69))] rfl (by (try simp only [List.map_toArray, List.map_cons, List.map_nil]); first | done|(simp only [hji69]; rfl)|rfl|(simp only [List.length_drop, List.length_take]; rfl)) ?_; (with_reducible refine (curtilageref10_number.calls kj88 (rdOf ByteArray.empty t194 (ji69)) t212 false _ A110.out).mono ?_); rintro e w115 ⟨rfl, hb⟩; refine ⟨_, rfl, ?_⟩; have n0_ := Q4 (Kd.R_below (rK HO_5) hb); have n1_ := Q4 (Qo (g := gb191) (o := .cells #[.string x192000_3, .int .i64 x192001_3, .int .i64 x192002_3, .int .i64 x192003_3, .int .i64 x192004_3, .int .i32 x192005_3, .string x192006_3] 40 (0, 0)) (bK BK191) hb); have n2_ := Q4 (Qo (g := gb197) (o := .cells #[.string (⟨#[]⟩ : ByteArray), .int .i64 x198001_2, .int .i64 x198002_3, .int .i64 x198003_3, .int .i64 x198004_3, .int .i32 x198005_3, .string x198006_3] 40 (0, 0)) (bK BK197) hb); have n3_ := Q4 (Qg (by repeat (first|(with_reducible first|exact HB.out|apply Q8|apply Q5|apply Q9|refine Q6 ?_ GE191.out|refine Q6 ?_ GE197.out)|exact HB.out)) hb); clear HO_5; clear BK191; clear BK197; clear HB; have HO_5 := n0_; have BK191 := n1_; have BK197 := n2_; have HB := n3_; clear n0_ n1_ n2_ n3_;(try clear hb);(try clear hb2);(try clear hk);(try clear hi); have hnb116 := NB197_191.out; have hnc116 := NB191_197.out; have hcz117_0 : w115.cell? ⟨gb197, 0, none⟩ = some (.string (⟨#[]⟩ : ByteArray)) := (Qe BK197.out 0).trans rfl; have hcz117_1 : w115.cell? ⟨gb197, 1, none⟩ = some (.int .i64 x198001_2) := (Qe BK197.out 1).trans rfl; have hcz117_2 : w115.cell? ⟨gb197, 2, none⟩ = some (.int .i64 x198002_3) := (Qe BK197.out 2).trans rfl; have hcz117_3 : w115.cell? ⟨gb197, 3, none⟩ = some (.int .i64 x198003_3) := (Qe BK197.out 3).trans rfl; have hcz117_4 : w115.cell? ⟨gb197, 4, none⟩ = some (.int .i64 x198004_3) := (Qe BK197.out 4).trans rfl; have hcz117_5 : w115.cell? ⟨gb197, 5, none⟩ = some (.int .i32 x198005_3) := (Qe BK197.out 5).trans rfl; have hcz117_6 : w115.cell? ⟨gb197, 6, none⟩ = some (.string x198006_3) := (Qe BK197.out 6).trans rfl; have hfz117_0 := Qd BK197.out 0; have hfz117_1 := Qd BK197.out 1; have hfz117_2 := Qd BK197.out 2; have hfz117_3 := Qd BK197.out 3; have hfz117_4 := Qd BK197.out 4; have hfz117_5 := Qd BK197.out 5; have hfz117_6 := Qd BK197.out 6; have hcz118_0 : w115.cell? ⟨gb191, 0, none⟩ = some (.string x192000_3) := (Qe BK191.out 0).trans rfl; have hcz118_1 : w115.cell? ⟨gb191, 1, none⟩ = some (.int .i64 x192001_3) := (Qe BK191.out 1).trans rfl; have hcz118_2 : w115.cell? ⟨gb191, 2, none⟩ = some (.int .i64 x192002_3) := (Qe BK191.out 2).trans rfl; have hcz118_3 : w115.cell? ⟨gb191, 3, none⟩ = some (.int .i64 x192003_3) := (Qe BK191.out 3).trans rfl; have hcz118_4 : w115.cell? ⟨gb191, 4, none⟩ = some (.int .i64 x192004_3) := (Qe BK191.out 4).trans rfl; have hcz118_5 : w115.cell? ⟨gb191, 5, none⟩ = some (.int .i32 x192005_3) := (Qe BK191.out 5).trans rfl; have hcz118_6 : w115.cell? ⟨gb191, 6, none⟩ = some (.string x192006_3) := (Qe BK191.out 6).trans rfl; have hfz118_0 := Qd BK191.out 0; have hfz118_1 := Qd BK191.out 1; have hfz118_2 := Qd BK191.out 2; have hfz118_3 := Qd BK191.out 3; have hfz118_4 := Qd BK191.out 4; have hfz118_5 := Qd BK191.out 5; have hfz118_6 := Qd BK191.out 6))
                     refine bodyPost_ret (results_ct rfl _ _ gb191 40 #[.string (⟨#[]⟩ : ByteArray), .int .i64 x198001_2, .int .i64 x198002_3, .int .i64 x198003_3, .int .i64 x198004_3, .int .i32 t212, .string x198006_3] (0, 0) _ rfl (by (with_reducible repeat (first|refine Qa ?_ _|refine Qb ?_|refine Q7 ?_ _)); refine blk_put (cs := #[.string (⟨#[]⟩ : ByteArray), .int .i64 x198001_2, .int .i64 x198002_3, .int .i64 x198003_3, .int .i64 x198004_3, .int .i32 t212, .string x192006_3]) ?_ 6 _ rfl; (with_reducible repeat (first|refine Qa ?_ _|refine Qb ?_|refine Q7 ?_ _)); refine blk_put (cs := #[.string (⟨#[]⟩ : ByteArray), .int .i64 x198001_2, .int .i64 x198002_3, .int .i64 x198003_3, .int .i64 x198004_3, .int .i32 x192005_3, .string x192006_3]) ?_ 5 _ rfl; (with_reducible repeat (first|refine Qa ?_ _|refine Qb ?_|refine Q7 ?_ _)); refine blk_put (cs := #[.string (⟨#[]⟩ : ByteArray), .int .i64 x198001_2, .int .i64 x198002_3, .int .i64 x198003_3, .int .i64 x192004_3, .int .i32 x192005_3, .string x192006_3]) ?_ 4 _ rfl; (with_reducible repeat (first|refine Qa ?_ _|refine Qb ?_|refine Q7 ?_ _)); refine blk_put (cs := #[.string (⟨#[]⟩ : ByteArray), .int .i64 x198001_2, .int .i64 x198002_3, .int .i64 x192003_3, .int .i64 x192004_3, .int .i32 x192005_3, .string x192006_3]) ?_ 3 _ rfl; (with_reducible repeat (first|refine Qa ?_ _|refine Qb ?_|refine Q7 ?_ _)); refine blk_put (cs := #[.string (⟨#[]⟩ : ByteArray), .int .i64 x198001_2, .int .i64 x192002_3, .int .i64 x192003_3, .int .i64 x192004_3, .int .i32 x192005_3, .string x192006_3]) ?_ 2 _ rfl; (with_reducible repeat (first|refine Qa ?_ _|refine Qb ?_|refine Q7 ?_ _)); refine blk_put (cs := #[.string (⟨#[]⟩ : ByteArray), .int .i64 x192001_3, .int .i64 x192002_3, .int .i64 x192003_3, .int .i64 x192004_3, .int .i32 x192005_3, .string x192006_3]) ?_ 1 _ rfl; (with_reducible repeat (first|refine Qa ?_ _|refine Qb ?_|refine Q7 ?_ _)); refine blk_put (cs := #[.string x192000_3, .int .i64 x192001_3, .int .i64 x192002_3, .int .i64 x192003_3, .int .i64 x192004_3, .int .i32 x192005_3, .string x192006_3]) ?_ 0 _ rfl; (with_reducible repeat (first|refine Qa ?_ _|refine Qb ?_|refine Q7 ?_ _)); refine blk_far ?_ NB191_197.out _; (with_reducible repeat (first|refine Qa ?_ _|refine Qb ?_|refine Q7 ?_ _)); exact BK191.out) Tryz.underlying40 rfl (by kernel_rfl)) rfl ?_
                     exact ⟨by first|rfl|(simp [errW_none, errW_some] <;> rfl)|(simp only [← hji69]; first|rfl|(simp [errW_none, errW_some] <;> rfl))|(simp [*, errW_none, errW_some] <;> rfl), by repeat (first|(with_reducible first|exact HB.out|apply Q8|apply Q5|apply Q9|refine Q6 ?_ GE191.out|refine Q6 ?_ GE197.out)|exact HB.out)⟩
             ·rw [if_neg c73] at H
              exact absurd H (by simp)
            ·rw [if_neg c71] at H
             exact absurd H (by simp)
           ·rw [if_neg c70] at H
            exact absurd H (by simp)
          ·rw [if_neg c68] at H
           have c68b0 : decide (x10_3 < (t204.size : Int)) = false := decide_eq_false c68
           clear c68
           replace H := Qi H
           obtain ⟨t205, A1190, H⟩ := H
           try dsimp only at H
           have A119 := Q4 A1190
           clear A1190
           by_cases c120 : t205 = true
           ·subst c120
            rw [if_pos rfl] at H
            replace H := Qi H
            obtain ⟨t206, A1210, H⟩ := H
            try dsimp only at H
            have A121 := Q4 A1210
            clear A1210
            simp only [Option.some.injEq, Prod.mk.injEq] at H
            obtain ⟨rfl, rfl, rfl, rfl, rfl, rfl, rfl, rfl⟩ := H
            try go_wp2
            have n0_ := Q4 (Kd.R_drew HO_5.out)
            have n1_ := Q4 (Qb BK191.out)
            have n2_ := Q4 (Qb BK197.out)
            have n3_ := Q4 (Q9 HB.out)
            clear HO_5
            clear BK191
            clear BK197
            clear HB
            have HO_5 := n0_
            have BK191 := n1_
            have BK197 := n2_
            have HB := n3_
            clear n0_ n1_ n2_ n3_
            refine start_ (n := 11) (S := fun w' => w'.cell? ⟨gb197, 0, none⟩ = some (.string (⟨#[]⟩ : ByteArray)) ∧ w'.cell? ⟨gb197, 1, none⟩ = some (.int .i64 x198001_2) ∧ w'.cell? ⟨gb197, 2, none⟩ = some (.int .i64 x198002_3) ∧ w'.cell? ⟨gb197, 3, none⟩ = some (.int .i64 x198003_3) ∧ w'.cell? ⟨gb197, 4, none⟩ = some (.int .i64 x198004_3) ∧ w'.cell? ⟨gb197, 5, none⟩ = some (.int .i32 x198005_3) ∧ w'.cell? ⟨gb197, 6, none⟩ = some (.string x198006_3)) (ds := []) (pm 11 0) (by kernel_rfl) rfl rfl ⟨(Qe BK197.out 0).trans rfl, (Qe BK197.out 1).trans rfl, (Qe BK197.out 2).trans rfl, (Qe BK197.out 3).trans rfl, (Qe BK197.out 4).trans rfl, (Qe BK197.out 5).trans rfl, (Qe BK197.out 6).trans rfl⟩ (fun hHeld => ?_); refine with_tabW curtilageref10_read.tab36 curtilageref10_read.bits36 (fun HT_ HW_ => ?_)
            generalize wr.drew = w122 at HO_5 BK191 BK197 HB hHeld ⊢
            refine take_ (i := 0) (N := some 149) (v := ?_) (a' := ?_) (pm 11 1) rfl rfl (take_ofW HT_.out HW_.out (by kernel_rfl)) (fun _ _ _ h => h) (Or.inl ⟨by rfl, ?_⟩) hHeld ?_ ?_
            rotate_left
            ·rintro w' ⟨s0, s1, s2, s3, s4, s5, s6⟩
             go_simp
             with_reducible rfl
            rotate_left
            ·simp only [Act.put, Q1,Q2,Q3, i64_w, i32_w]
             rfl
            refine take_ (i := 1) (N := some 150) (v := ?_) (a' := ?_) (pm 11 2) rfl rfl (take_ofW HT_.out HW_.out (by kernel_rfl)) (fun _ _ _ h => h) (Or.inl ⟨by rfl, ?_⟩) hHeld ?_ ?_
            rotate_left
            ·rintro w' ⟨s0, s1, s2, s3, s4, s5, s6⟩
             go_simp
             with_reducible rfl
            rotate_left
            ·simp only [Act.put, Q1,Q2,Q3, i64_w, i32_w]
             rfl
            refine one_ (i := 2) (N := some 151) (pm 11 3) rfl rfl (one_of HT_.out (by kernel_rfl)) (by decide) (fun K hK => ?_)
            refine goes_ Tryz.func21 (by kernel_rfl) rfl #[.agg #[.string (⟨#[]⟩ : ByteArray), .int .i64 x198001_2, .int .i64 x198002_3, .int .i64 x198003_3, .int .i64 x198004_3, .int .i32 x198005_3, .string x198006_3]] (by rfl) rfl rfl (by (try simp only [List.map_toArray, List.map_cons, List.map_nil]); first | done|rfl|(simp only [List.length_drop, List.length_take]; rfl)) ?_
            with_reducible refine (curtilageref10_good.calls k3 (⟨#[]⟩ : ByteArray) x198001_2 x198002_3 x198003_3 x198004_3 x198005_3 x198006_3 true _ A119.out).mono ?_
            rintro e w123 ⟨rfl, hb⟩
            refine ⟨_, rfl, ?_⟩
            have n0_ := Q4 (Kd.R_below (rK HO_5) hb)
            have n1_ := Q4 (Qo (g := gb191) (o := .cells #[.string x192000_3, .int .i64 x192001_3, .int .i64 x192002_3, .int .i64 x192003_3, .int .i64 x192004_3, .int .i32 x192005_3, .string x192006_3] 40 (0, 0)) (bK BK191) hb)
            have n2_ := Q4 (Qo (g := gb197) (o := .cells #[.string (⟨#[]⟩ : ByteArray), .int .i64 x198001_2, .int .i64 x198002_3, .int .i64 x198003_3, .int .i64 x198004_3, .int .i32 x198005_3, .string x198006_3] 40 (0, 0)) (bK BK197) hb)
            have n3_ := Q4 (Qg (by repeat (first|(with_reducible first|exact HB.out|apply Q8|apply Q5|apply Q9|refine Q6 ?_ GE191.out|refine Q6 ?_ GE197.out)|exact HB.out)) hb)
            clear HO_5
            clear BK191
            clear BK197
            clear HB
            have HO_5 := n0_
            have BK191 := n1_
            have BK197 := n2_
            have HB := n3_
            clear n0_ n1_ n2_ n3_
            (try clear hb)
            (try clear hb2)
            (try clear hk)
            (try clear hi)
            refine hK.out _ _ ⟨(Qe BK197.out 0).trans rfl, (Qe BK197.out 1).trans rfl, (Qe BK197.out 2).trans rfl, (Qe BK197.out 3).trans rfl, (Qe BK197.out 4).trans rfl, (Qe BK197.out 5).trans rfl, (Qe BK197.out 6).trans rfl⟩ (fun hHeld => ?_)
            clear hK K
            refine norm_ (a' := ?_) ?_ ?_
            rotate_left
            ·show Act.put _ (some 151) _ = _
             simp only [Act.put, Q1,Q2,Q3, i64_w, i32_w]
             rfl
            refine pure_ (i := 3) (N := some 152) (v := ?_) (a' := ?_) (pm 11 4) rfl rfl (Qp HT_.out (by kernel_rfl)) (fun _ _ _ h => h) (Or.inl ⟨by rfl, ?_⟩) ?_ ?_
            rotate_left
            ·intro w'
             go_simp
             with_reducible rfl
            rotate_left
            ·simp only [Act.put, Q1,Q2,Q3, i64_w, i32_w]
             rfl
            refine pure_ (i := 6) (N := some 155) (v := ?_) (a' := ?_) #[true,true,true,true,false,false,true,false,false,false,false] rfl rfl (Qp HT_.out (by kernel_rfl)) (fun _ _ _ h => h) (Or.inl ⟨by rfl, ?_⟩) ?_ ?_
            rotate_left
            ·intro w'
             go_simp
             with_reducible rfl
            rotate_left
            ·simp only [Act.put, Q1,Q2,Q3, i64_w, i32_w]
             rfl
            refine take_ (i := 4) (N := some 153) (v := ?_) (a' := ?_) #[true,true,true,true,true,false,true,false,false,false,false] rfl rfl (take_ofW HT_.out HW_.out (by kernel_rfl)) (fun _ _ _ h => h) (Or.inl ⟨by rfl, ?_⟩) hHeld ?_ ?_
            rotate_left
            ·rintro w' ⟨s0, s1, s2, s3, s4, s5, s6⟩
             go_simp
             with_reducible rfl
            rotate_left
            ·simp only [Act.put, Q1,Q2,Q3, i64_w, i32_w]
             rfl
            refine one_ (i := 5) (N := some 154) (pm 11 7) rfl rfl (one_of HT_.out (by kernel_rfl)) (by decide) (fun K hK => ?_)
            refine goes_ Tryz.func39 (by kernel_rfl) rfl #[.agg #[.string (⟨#[]⟩ : ByteArray), .int .i64 x198001_2, .int .i64 x198002_3, .int .i64 x198003_3, .int .i64 x198004_3, .int .i32 x198005_3, .string x198006_3]] (by rfl) rfl rfl (by (try simp only [List.map_toArray, List.map_cons, List.map_nil]); first | done|rfl|(simp only [List.length_drop, List.length_take]; rfl)) ?_
            with_reducible refine (curtilageref10_line.calls k3 (⟨#[]⟩ : ByteArray) x198001_2 x198002_3 x198003_3 x198004_3 x198005_3 x198006_3 t206 _ A121.out).mono ?_
            rintro e w124 ⟨rfl, hb⟩
            refine ⟨_, rfl, ?_⟩
            have n0_ := Q4 (Kd.R_below (rK HO_5) hb)
            have n1_ := Q4 (Qo (g := gb191) (o := .cells #[.string x192000_3, .int .i64 x192001_3, .int .i64 x192002_3, .int .i64 x192003_3, .int .i64 x192004_3, .int .i32 x192005_3, .string x192006_3] 40 (0, 0)) (bK BK191) hb)
            have n2_ := Q4 (Qo (g := gb197) (o := .cells #[.string (⟨#[]⟩ : ByteArray), .int .i64 x198001_2, .int .i64 x198002_3, .int .i64 x198003_3, .int .i64 x198004_3, .int .i32 x198005_3, .string x198006_3] 40 (0, 0)) (bK BK197) hb)
            have n3_ := Q4 (Qg (by repeat (first|(with_reducible first|exact HB.out|apply Q8|apply Q5|apply Q9|refine Q6 ?_ GE191.out|refine Q6 ?_ GE197.out)|exact HB.out)) hb)
            clear HO_5
            clear BK191
            clear BK197
            clear HB
            have HO_5 := n0_
            have BK191 := n1_
            have BK197 := n2_
            have HB := n3_
            clear n0_ n1_ n2_ n3_
            (try clear hb)
            (try clear hb2)
            (try clear hk)
            (try clear hi)
            refine hK.out _ _ ⟨(Qe BK197.out 0).trans rfl, (Qe BK197.out 1).trans rfl, (Qe BK197.out 2).trans rfl, (Qe BK197.out 3).trans rfl, (Qe BK197.out 4).trans rfl, (Qe BK197.out 5).trans rfl, (Qe BK197.out 6).trans rfl⟩ (fun hHeld => ?_)
            clear hK K
            refine norm_ (a' := ?_) ?_ ?_
            rotate_left
            ·show Act.put _ (some 154) _ = _
             simp only [Act.put, Q1,Q2,Q3, i64_w, i32_w]
             rfl
            refine pure_ (i := 7) (N := some 156) (v := ?_) (a' := ?_) (pm 11 8) rfl rfl (Qp HT_.out (by kernel_rfl)) (fun _ _ _ h => h) (Or.inl ⟨by rfl, ?_⟩) ?_ ?_
            rotate_left
            ·intro w'
             go_simp
             with_reducible rfl
            rotate_left
            ·simp only [Act.put, Q1,Q2,Q3, i64_w, i32_w]
             rfl
            refine pure_ (i := 8) (N := some 157) (v := ?_) (a' := ?_) (pm 11 9) rfl rfl (Qp HT_.out (by kernel_rfl)) (fun _ _ _ h => h) (Or.inl ⟨by rfl, ?_⟩) ?_ ?_
            rotate_left
            ·intro w'
             go_simp
             with_reducible rfl
            rotate_left
            ·simp only [Act.put, Q1,Q2,Q3, i64_w, i32_w]
             rfl
            refine one_ (i := 9) (N := none) (pm 11 10) rfl rfl (one_of HT_.out (by kernel_rfl)) (by decide) (fun K hK => ?_)
            have hs125 : w124.cell? ⟨gb191, 0, none⟩ = some (.string x192000_3) := (Qe BK191.out 0).trans rfl
            have hfs125 := Qd BK191.out 0
            have hns125_1 := NB197_191.out
            have hms125_1 := NB191_197.out
            have hs126 : w124.cell? ⟨gb191, 1, none⟩ = some (.int .i64 x192001_3) := (Qe BK191.out 1).trans rfl
            have hfs126 := Qd BK191.out 1
            have hns126_1 := NB197_191.out
            have hms126_1 := NB191_197.out
            have hs127 : w124.cell? ⟨gb191, 2, none⟩ = some (.int .i64 x192002_3) := (Qe BK191.out 2).trans rfl
            have hfs127 := Qd BK191.out 2
            have hns127_1 := NB197_191.out
            have hms127_1 := NB191_197.out
            have hs128 : w124.cell? ⟨gb191, 3, none⟩ = some (.int .i64 x192003_3) := (Qe BK191.out 3).trans rfl
            have hfs128 := Qd BK191.out 3
            have hns128_1 := NB197_191.out
            have hms128_1 := NB191_197.out
            have hs129 : w124.cell? ⟨gb191, 4, none⟩ = some (.int .i64 x192004_3) := (Qe BK191.out 4).trans rfl
            have hfs129 := Qd BK191.out 4
            have hns129_1 := NB197_191.out
            have hms129_1 := NB191_197.out
            have hs130 : w124.cell? ⟨gb191, 5, none⟩ = some (.int .i32 x192005_3) := (Qe BK191.out 5).trans rfl
            have hfs130 := Qd BK191.out 5
            have hns130_1 := NB197_191.out
            have hms130_1 := NB191_197.out
            have hs131 : w124.cell? ⟨gb191, 6, none⟩ = some (.string x192006_3) := (Qe BK191.out 6).trans rfl
            have hfs131 := Qd BK191.out 6
            have hns131_1 := NB197_191.out
            have hms131_1 := NB191_197.out
            refine skip_ (w1 := ?_) (by rfl) rfl ?_ ?_
            rotate_left
            ·go_simp
             rfl
            refine hK.out _ _ ⟨((Qf (p := ⟨gb191, _, none⟩) NB197_191.out _).trans (((Qf (p := ⟨gb191, _, none⟩) NB197_191.out _).trans (((Qf (p := ⟨gb191, _, none⟩) NB197_191.out _).trans (((Qf (p := ⟨gb191, _, none⟩) NB197_191.out _).trans (((Qf (p := ⟨gb191, _, none⟩) NB197_191.out _).trans (((Qf (p := ⟨gb191, _, none⟩) NB197_191.out _).trans (((Qf (p := ⟨gb191, _, none⟩) NB197_191.out _).trans (hHeld.1)))))))))))))), ((Qf (p := ⟨gb191, _, none⟩) NB197_191.out _).trans (((Qf (p := ⟨gb191, _, none⟩) NB197_191.out _).trans (((Qf (p := ⟨gb191, _, none⟩) NB197_191.out _).trans (((Qf (p := ⟨gb191, _, none⟩) NB197_191.out _).trans (((Qf (p := ⟨gb191, _, none⟩) NB197_191.out _).trans (((Qf (p := ⟨gb191, _, none⟩) NB197_191.out _).trans (((Qf (p := ⟨gb191, _, none⟩) NB197_191.out _).trans (hHeld.2.1)))))))))))))), ((Qf (p := ⟨gb191, _, none⟩) NB197_191.out _).trans (((Qf (p := ⟨gb191, _, none⟩) NB197_191.out _).trans (((Qf (p := ⟨gb191, _, none⟩) NB197_191.out _).trans (((Qf (p := ⟨gb191, _, none⟩) NB197_191.out _).trans (((Qf (p := ⟨gb191, _, none⟩) NB197_191.out _).trans (((Qf (p := ⟨gb191, _, none⟩) NB197_191.out _).trans (((Qf (p := ⟨gb191, _, none⟩) NB197_191.out _).trans (hHeld.2.2.1)))))))))))))), ((Qf (p := ⟨gb191, _, none⟩) NB197_191.out _).trans (((Qf (p := ⟨gb191, _, none⟩) NB197_191.out _).trans (((Qf (p := ⟨gb191, _, none⟩) NB197_191.out _).trans (((Qf (p := ⟨gb191, _, none⟩) NB197_191.out _).trans (((Qf (p := ⟨gb191, _, none⟩) NB197_191.out _).trans (((Qf (p := ⟨gb191, _, none⟩) NB197_191.out _).trans (((Qf (p := ⟨gb191, _, none⟩) NB197_191.out _).trans (hHeld.2.2.2.1)))))))))))))), ((Qf (p := ⟨gb191, _, none⟩) NB197_191.out _).trans (((Qf (p := ⟨gb191, _, none⟩) NB197_191.out _).trans (((Qf (p := ⟨gb191, _, none⟩) NB197_191.out _).trans (((Qf (p := ⟨gb191, _, none⟩) NB197_191.out _).trans (((Qf (p := ⟨gb191, _, none⟩) NB197_191.out _).trans (((Qf (p := ⟨gb191, _, none⟩) NB197_191.out _).trans (((Qf (p := ⟨gb191, _, none⟩) NB197_191.out _).trans (hHeld.2.2.2.2.1)))))))))))))), ((Qf (p := ⟨gb191, _, none⟩) NB197_191.out _).trans (((Qf (p := ⟨gb191, _, none⟩) NB197_191.out _).trans (((Qf (p := ⟨gb191, _, none⟩) NB197_191.out _).trans (((Qf (p := ⟨gb191, _, none⟩) NB197_191.out _).trans (((Qf (p := ⟨gb191, _, none⟩) NB197_191.out _).trans (((Qf (p := ⟨gb191, _, none⟩) NB197_191.out _).trans (((Qf (p := ⟨gb191, _, none⟩) NB197_191.out _).trans (hHeld.2.2.2.2.2.1)))))))))))))), ((Qf (p := ⟨gb191, _, none⟩) NB197_191.out _).trans (((Qf (p := ⟨gb191, _, none⟩) NB197_191.out _).trans (((Qf (p := ⟨gb191, _, none⟩) NB197_191.out _).trans (((Qf (p := ⟨gb191, _, none⟩) NB197_191.out _).trans (((Qf (p := ⟨gb191, _, none⟩) NB197_191.out _).trans (((Qf (p := ⟨gb191, _, none⟩) NB197_191.out _).trans (((Qf (p := ⟨gb191, _, none⟩) NB197_191.out _).trans (hHeld.2.2.2.2.2.2))))))))))))))⟩ (fun hHeld => ?_)
            clear hK K
            refine pure_ (i := 10) (N := some 3) (v := ?_) (a' := ?_) (pm 11 11) rfl rfl (Qp HT_.out (by kernel_rfl)) (fun _ _ _ h => h) (Or.inl ⟨by rfl, ?_⟩) ?_ ?_
            rotate_left
            ·intro w'
             go_simp
             with_reducible rfl
            rotate_left
            ·simp only [Act.put, Q1,Q2,Q3, i64_w, i32_w]
             rfl
            refine done_ (done_of HT_.out (by kernel_rfl)) ?_
            try go_wp2
            refine bodyPost_ret (results_ct rfl _ _ gb191 40 #[.string (⟨#[]⟩ : ByteArray), .int .i64 x198001_2, .int .i64 x198002_3, .int .i64 x198003_3, .int .i64 x198004_3, .int .i32 x198005_3, .string x198006_3] (0, 0) _ rfl (by (with_reducible repeat (first|refine Qa ?_ _|refine Qb ?_|refine Q7 ?_ _)); refine blk_put (cs := #[.string (⟨#[]⟩ : ByteArray), .int .i64 x198001_2, .int .i64 x198002_3, .int .i64 x198003_3, .int .i64 x198004_3, .int .i32 x198005_3, .string x192006_3]) ?_ 6 _ rfl; (with_reducible repeat (first|refine Qa ?_ _|refine Qb ?_|refine Q7 ?_ _)); refine blk_put (cs := #[.string (⟨#[]⟩ : ByteArray), .int .i64 x198001_2, .int .i64 x198002_3, .int .i64 x198003_3, .int .i64 x198004_3, .int .i32 x192005_3, .string x192006_3]) ?_ 5 _ rfl; (with_reducible repeat (first|refine Qa ?_ _|refine Qb ?_|refine Q7 ?_ _)); refine blk_put (cs := #[.string (⟨#[]⟩ : ByteArray), .int .i64 x198001_2, .int .i64 x198002_3, .int .i64 x198003_3, .int .i64 x192004_3, .int .i32 x192005_3, .string x192006_3]) ?_ 4 _ rfl; (with_reducible repeat (first|refine Qa ?_ _|refine Qb ?_|refine Q7 ?_ _)); refine blk_put (cs := #[.string (⟨#[]⟩ : ByteArray), .int .i64 x198001_2, .int .i64 x198002_3, .int .i64 x192003_3, .int .i64 x192004_3, .int .i32 x192005_3, .string x192006_3]) ?_ 3 _ rfl; (with_reducible repeat (first|refine Qa ?_ _|refine Qb ?_|refine Q7 ?_ _)); refine blk_put (cs := #[.string (⟨#[]⟩ : ByteArray), .int .i64 x198001_2, .int .i64 x192002_3, .int .i64 x192003_3, .int .i64 x192004_3, .int .i32 x192005_3, .string x192006_3]) ?_ 2 _ rfl; (with_reducible repeat (first|refine Qa ?_ _|refine Qb ?_|refine Q7 ?_ _)); refine blk_put (cs := #[.string (⟨#[]⟩ : ByteArray), .int .i64 x192001_3, .int .i64 x192002_3, .int .i64 x192003_3, .int .i64 x192004_3, .int .i32 x192005_3, .string x192006_3]) ?_ 1 _ rfl; (with_reducible repeat (first|refine Qa ?_ _|refine Qb ?_|refine Q7 ?_ _)); refine blk_put (cs := #[.string x192000_3, .int .i64 x192001_3, .int .i64 x192002_3, .int .i64 x192003_3, .int .i64 x192004_3, .int .i32 x192005_3, .string x192006_3]) ?_ 0 _ rfl; (with_reducible repeat (first|refine Qa ?_ _|refine Qb ?_|refine Q7 ?_ _)); exact BK191.out) Tryz.underlying40 rfl (by kernel_rfl)) rfl ?_
            exact ⟨by first|rfl|(simp [errW_none, errW_some] <;> rfl)|(simp [*, errW_none, errW_some] <;> rfl), by repeat (first|(with_reducible first|exact HB.out|apply Q8|apply Q5|apply Q9|refine Q6 ?_ GE191.out|refine Q6 ?_ GE197.out)|exact HB.out)⟩
           ·replace c120 := Bool.eq_false_iff.mpr c120
            subst c120
            rw [if_neg (show ¬ (false = true) by decide)] at H
            simp only [Option.some.injEq, Prod.mk.injEq] at H
            obtain ⟨rfl, rfl, rfl, rfl, rfl, rfl, rfl, rfl⟩ := H
            try go_wp2
            have n0_ := Q4 (Kd.R_drew HO_5.out)
            have n1_ := Q4 (Qb BK191.out)
            have n2_ := Q4 (Qb BK197.out)
            have n3_ := Q4 (Q9 HB.out)
            clear HO_5
            clear BK191
            clear BK197
            clear HB
            have HO_5 := n0_
            have BK191 := n1_
            have BK197 := n2_
            have HB := n3_
            clear n0_ n1_ n2_ n3_
            refine start_ (n := 11) (S := fun w' => w'.cell? ⟨gb197, 0, none⟩ = some (.string (⟨#[]⟩ : ByteArray)) ∧ w'.cell? ⟨gb197, 1, none⟩ = some (.int .i64 x198001_2) ∧ w'.cell? ⟨gb197, 2, none⟩ = some (.int .i64 x198002_3) ∧ w'.cell? ⟨gb197, 3, none⟩ = some (.int .i64 x198003_3) ∧ w'.cell? ⟨gb197, 4, none⟩ = some (.int .i64 x198004_3) ∧ w'.cell? ⟨gb197, 5, none⟩ = some (.int .i32 x198005_3) ∧ w'.cell? ⟨gb197, 6, none⟩ = some (.string x198006_3)) (ds := []) (pm 11 0) (by kernel_rfl) rfl rfl ⟨(Qe BK197.out 0).trans rfl, (Qe BK197.out 1).trans rfl, (Qe BK197.out 2).trans rfl, (Qe BK197.out 3).trans rfl, (Qe BK197.out 4).trans rfl, (Qe BK197.out 5).trans rfl, (Qe BK197.out 6).trans rfl⟩ (fun hHeld => ?_); refine with_tabW curtilageref10_read.tab36 curtilageref10_read.bits36 (fun HT_ HW_ => ?_)
            generalize wr.drew = w132 at HO_5 BK191 BK197 HB hHeld ⊢
            refine take_ (i := 0) (N := some 149) (v := ?_) (a' := ?_) (pm 11 1) rfl rfl (take_ofW HT_.out HW_.out (by kernel_rfl)) (fun _ _ _ h => h) (Or.inl ⟨by rfl, ?_⟩) hHeld ?_ ?_
            rotate_left
            ·rintro w' ⟨s0, s1, s2, s3, s4, s5, s6⟩
             go_simp
             with_reducible rfl
            rotate_left
            ·simp only [Act.put, Q1,Q2,Q3, i64_w, i32_w]
             rfl
            refine take_ (i := 1) (N := some 150) (v := ?_) (a' := ?_) (pm 11 2) rfl rfl (take_ofW HT_.out HW_.out (by kernel_rfl)) (fun _ _ _ h => h) (Or.inl ⟨by rfl, ?_⟩) hHeld ?_ ?_
            rotate_left
            ·rintro w' ⟨s0, s1, s2, s3, s4, s5, s6⟩
             go_simp
             with_reducible rfl
            rotate_left
            ·simp only [Act.put, Q1,Q2,Q3, i64_w, i32_w]
             rfl
            refine one_ (i := 2) (N := some 151) (pm 11 3) rfl rfl (one_of HT_.out (by kernel_rfl)) (by decide) (fun K hK => ?_)
            refine goes_ Tryz.func21 (by kernel_rfl) rfl #[.agg #[.string (⟨#[]⟩ : ByteArray), .int .i64 x198001_2, .int .i64 x198002_3, .int .i64 x198003_3, .int .i64 x198004_3, .int .i32 x198005_3, .string x198006_3]] (by rfl) rfl rfl (by (try simp only [List.map_toArray, List.map_cons, List.map_nil]); first | done|rfl|(simp only [List.length_drop, List.length_take]; rfl)) ?_
            with_reducible refine (curtilageref10_good.calls k3 (⟨#[]⟩ : ByteArray) x198001_2 x198002_3 x198003_3 x198004_3 x198005_3 x198006_3 false _ A119.out).mono ?_
            rintro e w133 ⟨rfl, hb⟩
            refine ⟨_, rfl, ?_⟩
            have n0_ := Q4 (Kd.R_below (rK HO_5) hb)
            have n1_ := Q4 (Qo (g := gb191) (o := .cells #[.string x192000_3, .int .i64 x192001_3, .int .i64 x192002_3, .int .i64 x192003_3, .int .i64 x192004_3, .int .i32 x192005_3, .string x192006_3] 40 (0, 0)) (bK BK191) hb)
            have n2_ := Q4 (Qo (g := gb197) (o := .cells #[.string (⟨#[]⟩ : ByteArray), .int .i64 x198001_2, .int .i64 x198002_3, .int .i64 x198003_3, .int .i64 x198004_3, .int .i32 x198005_3, .string x198006_3] 40 (0, 0)) (bK BK197) hb)
            have n3_ := Q4 (Qg (by repeat (first|(with_reducible first|exact HB.out|apply Q8|apply Q5|apply Q9|refine Q6 ?_ GE191.out|refine Q6 ?_ GE197.out)|exact HB.out)) hb)
            clear HO_5
            clear BK191
            clear BK197
            clear HB
            have HO_5 := n0_
            have BK191 := n1_
            have BK197 := n2_
            have HB := n3_
            clear n0_ n1_ n2_ n3_
            (try clear hb)
            (try clear hb2)
            (try clear hk)
            (try clear hi)
            refine hK.out _ _ ⟨(Qe BK197.out 0).trans rfl, (Qe BK197.out 1).trans rfl, (Qe BK197.out 2).trans rfl, (Qe BK197.out 3).trans rfl, (Qe BK197.out 4).trans rfl, (Qe BK197.out 5).trans rfl, (Qe BK197.out 6).trans rfl⟩ (fun hHeld => ?_)
            clear hK K
            refine norm_ (a' := ?_) ?_ ?_
            rotate_left
            ·show Act.put _ (some 151) _ = _
             simp only [Act.put, Q1,Q2,Q3, i64_w, i32_w]
             rfl
            refine pure_ (i := 3) (N := some 152) (v := ?_) (a' := ?_) (pm 11 4) rfl rfl (Qp HT_.out (by kernel_rfl)) (fun _ _ _ h => h) (Or.inl ⟨by rfl, ?_⟩) ?_ ?_
            rotate_left
            ·intro w'
             go_simp
             with_reducible rfl
            rotate_left
            ·simp only [Act.put, Q1,Q2,Q3, i64_w, i32_w]
             rfl
            refine pure_ (i := 4) (N := some 153) (v := undef) (a' := ?_) (pm 11 5) rfl rfl (Qp HT_.out (by kernel_rfl)) (fun _ _ _ h => h) (Or.inr ⟨by rfl, rfl⟩) ?_ ?_
            rotate_left
            ·simp only [Act.put, Q1,Q2,Q3, i64_w, i32_w]
             rfl
            refine pure_ (i := 5) (N := some 154) (v := undef) (a' := ?_) (pm 11 6) rfl rfl (Qp HT_.out (by kernel_rfl)) (fun _ _ _ h => h) (Or.inr ⟨by rfl, rfl⟩) ?_ ?_
            rotate_left
            ·simp only [Act.put, Q1,Q2,Q3, i64_w, i32_w]
             rfl
            refine pure_ (i := 6) (N := some 155) (v := undef) (a' := ?_) (pm 11 7) rfl rfl (Qp HT_.out (by kernel_rfl)) (fun _ _ _ h => h) (Or.inr ⟨by rfl, rfl⟩) ?_ ?_
            rotate_left
            ·simp only [Act.put, Q1,Q2,Q3, i64_w, i32_w]
             rfl
            refine pure_ (i := 7) (N := some 156) (v := undef) (a' := ?_) (pm 11 8) rfl rfl (Qp HT_.out (by kernel_rfl)) (fun _ _ _ h => h) (Or.inr ⟨by rfl, rfl⟩) ?_ ?_
            rotate_left
            ·simp only [Act.put, Q1,Q2,Q3, i64_w, i32_w]
             rfl
            refine pure_ (i := 8) (N := some 157) (v := ?_) (a' := ?_) (pm 11 9) rfl rfl (Qp HT_.out (by kernel_rfl)) (fun _ _ _ h => h) (Or.inl ⟨by rfl, ?_⟩) ?_ ?_
            rotate_left
            ·intro w'
             go_simp
             with_reducible rfl
            rotate_left
            ·simp only [Act.put, Q1,Q2,Q3, i64_w, i32_w]
             rfl
            refine one_ (i := 9) (N := none) (pm 11 10) rfl rfl (one_of HT_.out (by kernel_rfl)) (by decide) (fun K hK => ?_)
            have hs134 : w133.cell? ⟨gb191, 0, none⟩ = some (.string x192000_3) := (Qe BK191.out 0).trans rfl
            have hfs134 := Qd BK191.out 0
            have hns134_1 := NB197_191.out
            have hms134_1 := NB191_197.out
            have hs135 : w133.cell? ⟨gb191, 1, none⟩ = some (.int .i64 x192001_3) := (Qe BK191.out 1).trans rfl
            have hfs135 := Qd BK191.out 1
            have hns135_1 := NB197_191.out
            have hms135_1 := NB191_197.out
            have hs136 : w133.cell? ⟨gb191, 2, none⟩ = some (.int .i64 x192002_3) := (Qe BK191.out 2).trans rfl
            have hfs136 := Qd BK191.out 2
            have hns136_1 := NB197_191.out
            have hms136_1 := NB191_197.out
            have hs137 : w133.cell? ⟨gb191, 3, none⟩ = some (.int .i64 x192003_3) := (Qe BK191.out 3).trans rfl
            have hfs137 := Qd BK191.out 3
            have hns137_1 := NB197_191.out
            have hms137_1 := NB191_197.out
            have hs138 : w133.cell? ⟨gb191, 4, none⟩ = some (.int .i64 x192004_3) := (Qe BK191.out 4).trans rfl
            have hfs138 := Qd BK191.out 4
            have hns138_1 := NB197_191.out
            have hms138_1 := NB191_197.out
            have hs139 : w133.cell? ⟨gb191, 5, none⟩ = some (.int .i32 x192005_3) := (Qe BK191.out 5).trans rfl
            have hfs139 := Qd BK191.out 5
            have hns139_1 := NB197_191.out
            have hms139_1 := NB191_197.out
            have hs140 : w133.cell? ⟨gb191, 6, none⟩ = some (.string x192006_3) := (Qe BK191.out 6).trans rfl
            have hfs140 := Qd BK191.out 6
            have hns140_1 := NB197_191.out
            have hms140_1 := NB191_197.out
            refine skip_ (w1 := ?_) (by rfl) rfl ?_ ?_
            rotate_left
            ·go_simp
             rfl
            refine hK.out _ _ ⟨((Qf (p := ⟨gb191, _, none⟩) NB197_191.out _).trans (((Qf (p := ⟨gb191, _, none⟩) NB197_191.out _).trans (((Qf (p := ⟨gb191, _, none⟩) NB197_191.out _).trans (((Qf (p := ⟨gb191, _, none⟩) NB197_191.out _).trans (((Qf (p := ⟨gb191, _, none⟩) NB197_191.out _).trans (((Qf (p := ⟨gb191, _, none⟩) NB197_191.out _).trans (((Qf (p := ⟨gb191, _, none⟩) NB197_191.out _).trans (hHeld.1)))))))))))))), ((Qf (p := ⟨gb191, _, none⟩) NB197_191.out _).trans (((Qf (p := ⟨gb191, _, none⟩) NB197_191.out _).trans (((Qf (p := ⟨gb191, _, none⟩) NB197_191.out _).trans (((Qf (p := ⟨gb191, _, none⟩) NB197_191.out _).trans (((Qf (p := ⟨gb191, _, none⟩) NB197_191.out _).trans (((Qf (p := ⟨gb191, _, none⟩) NB197_191.out _).trans (((Qf (p := ⟨gb191, _, none⟩) NB197_191.out _).trans (hHeld.2.1)))))))))))))), ((Qf (p := ⟨gb191, _, none⟩) NB197_191.out _).trans (((Qf (p := ⟨gb191, _, none⟩) NB197_191.out _).trans (((Qf (p := ⟨gb191, _, none⟩) NB197_191.out _).trans (((Qf (p := ⟨gb191, _, none⟩) NB197_191.out _).trans (((Qf (p := ⟨gb191, _, none⟩) NB197_191.out _).trans (((Qf (p := ⟨gb191, _, none⟩) NB197_191.out _).trans (((Qf (p := ⟨gb191, _, none⟩) NB197_191.out _).trans (hHeld.2.2.1)))))))))))))), ((Qf (p := ⟨gb191, _, none⟩) NB197_191.out _).trans (((Qf (p := ⟨gb191, _, none⟩) NB197_191.out _).trans (((Qf (p := ⟨gb191, _, none⟩) NB197_191.out _).trans (((Qf (p := ⟨gb191, _, none⟩) NB197_191.out _).trans (((Qf (p := ⟨gb191, _, none⟩) NB197_191.out _).trans (((Qf (p := ⟨gb191, _, none⟩) NB197_191.out _).trans (((Qf (p := ⟨gb191, _, none⟩) NB197_191.out _).trans (hHeld.2.2.2.1)))))))))))))), ((Qf (p := ⟨gb191, _, none⟩) NB197_191.out _).trans (((Qf (p := ⟨gb191, _, none⟩) NB197_191.out _).trans (((Qf (p := ⟨gb191, _, none⟩) NB197_191.out _).trans (((Qf (p := ⟨gb191, _, none⟩) NB197_191.out _).trans (((Qf (p := ⟨gb191, _, none⟩) NB197_191.out _).trans (((Qf (p := ⟨gb191, _, none⟩) NB197_191.out _).trans (((Qf (p := ⟨gb191, _, none⟩) NB197_191.out _).trans (hHeld.2.2.2.2.1)))))))))))))), ((Qf (p := ⟨gb191, _, none⟩) NB197_191.out _).trans (((Qf (p := ⟨gb191, _, none⟩) NB197_191.out _).trans (((Qf (p := ⟨gb191, _, none⟩) NB197_191.out _).trans (((Qf (p := ⟨gb191, _, none⟩) NB197_191.out _).trans (((Qf (p := ⟨gb191, _, none⟩) NB197_191.out _).trans (((Qf (p := ⟨gb191, _, none⟩) NB197_191.out _).trans (((Qf (p := ⟨gb191, _, none⟩) NB197_191.out _).trans (hHeld.2.2.2.2.2.1)))))))))))))), ((Qf (p := ⟨gb191, _, none⟩) NB197_191.out _).trans (((Qf (p := ⟨gb191, _, none⟩) NB197_191.out _).trans (((Qf (p := ⟨gb191, _, none⟩) NB197_191.out _).trans (((Qf (p := ⟨gb191, _, none⟩) NB197_191.out _).trans (((Qf (p := ⟨gb191, _, none⟩) NB197_191.out _).trans (((Qf (p := ⟨gb191, _, none⟩) NB197_191.out _).trans (((Qf (p := ⟨gb191, _, none⟩) NB197_191.out _).trans (hHeld.2.2.2.2.2.2))))))))))))))⟩ (fun hHeld => ?_)
            clear hK K
            refine pure_ (i := 10) (N := some 3) (v := ?_) (a' := ?_) (pm 11 11) rfl rfl (Qp HT_.out (by kernel_rfl)) (fun _ _ _ h => h) (Or.inl ⟨by rfl, ?_⟩) ?_ ?_
            rotate_left
            ·intro w'
             go_simp
             with_reducible rfl
            rotate_left
            ·simp only [Act.put, Q1,Q2,Q3, i64_w, i32_w]
             rfl
            refine done_ (done_of HT_.out (by kernel_rfl)) ?_
            try go_wp2
            refine bodyPost_ret (results_ct rfl _ _ gb191 40 #[.string (⟨#[]⟩ : ByteArray), .int .i64 x198001_2, .int .i64 x198002_3, .int .i64 x198003_3, .int .i64 x198004_3, .int .i32 x198005_3, .string x198006_3] (0, 0) _ rfl (by (with_reducible repeat (first|refine Qa ?_ _|refine Qb ?_|refine Q7 ?_ _)); refine blk_put (cs := #[.string (⟨#[]⟩ : ByteArray), .int .i64 x198001_2, .int .i64 x198002_3, .int .i64 x198003_3, .int .i64 x198004_3, .int .i32 x198005_3, .string x192006_3]) ?_ 6 _ rfl; (with_reducible repeat (first|refine Qa ?_ _|refine Qb ?_|refine Q7 ?_ _)); refine blk_put (cs := #[.string (⟨#[]⟩ : ByteArray), .int .i64 x198001_2, .int .i64 x198002_3, .int .i64 x198003_3, .int .i64 x198004_3, .int .i32 x192005_3, .string x192006_3]) ?_ 5 _ rfl; (with_reducible repeat (first|refine Qa ?_ _|refine Qb ?_|refine Q7 ?_ _)); refine blk_put (cs := #[.string (⟨#[]⟩ : ByteArray), .int .i64 x198001_2, .int .i64 x198002_3, .int .i64 x198003_3, .int .i64 x192004_3, .int .i32 x192005_3, .string x192006_3]) ?_ 4 _ rfl; (with_reducible repeat (first|refine Qa ?_ _|refine Qb ?_|refine Q7 ?_ _)); refine blk_put (cs := #[.string (⟨#[]⟩ : ByteArray), .int .i64 x198001_2, .int .i64 x198002_3, .int .i64 x192003_3, .int .i64 x192004_3, .int .i32 x192005_3, .string x192006_3]) ?_ 3 _ rfl; (with_reducible repeat (first|refine Qa ?_ _|refine Qb ?_|refine Q7 ?_ _)); refine blk_put (cs := #[.string (⟨#[]⟩ : ByteArray), .int .i64 x198001_2, .int .i64 x192002_3, .int .i64 x192003_3, .int .i64 x192004_3, .int .i32 x192005_3, .string x192006_3]) ?_ 2 _ rfl; (with_reducible repeat (first|refine Qa ?_ _|refine Qb ?_|refine Q7 ?_ _)); refine blk_put (cs := #[.string (⟨#[]⟩ : ByteArray), .int .i64 x192001_3, .int .i64 x192002_3, .int .i64 x192003_3, .int .i64 x192004_3, .int .i32 x192005_3, .string x192006_3]) ?_ 1 _ rfl; (with_reducible repeat (first|refine Qa ?_ _|refine Qb ?_|refine Q7 ?_ _)); refine blk_put (cs := #[.string x192000_3, .int .i64 x192001_3, .int .i64 x192002_3, .int .i64 x192003_3, .int .i64 x192004_3, .int .i32 x192005_3, .string x192006_3]) ?_ 0 _ rfl; (with_reducible repeat (first|refine Qa ?_ _|refine Qb ?_|refine Q7 ?_ _)); exact BK191.out) Tryz.underlying40 rfl (by kernel_rfl)) rfl ?_
            exact ⟨by first|rfl|(simp [errW_none, errW_some] <;> rfl)|(simp [*, errW_none, errW_some] <;> rfl), by repeat (first|(with_reducible first|exact HB.out|apply Q8|apply Q5|apply Q9|refine Q6 ?_ GE191.out|refine Q6 ?_ GE197.out)|exact HB.out)⟩
       ·rw [if_neg c64] at H
        have c64b0 : ((t194.length : Int) == (wrap64 ((t204.size : Int) + 1))) = false := Qk c64
        have c64b1 : ((t194.length : Int) != (wrap64 ((t204.size : Int) + 1))) = true := Ql c64
        simp only [Option.some.injEq, Prod.mk.injEq] at H
        obtain ⟨rfl, rfl, rfl, rfl, rfl, rfl, rfl, rfl⟩ := H
        have hnb141 := NB197_191.out
        have hnc141 := NB191_197.out
        have hcz142_0 : wr.cell? ⟨gb197, 0, none⟩ = some (.string (⟨#[]⟩ : ByteArray)) := (Qe BK197.out 0).trans rfl
        have hcz142_1 : wr.cell? ⟨gb197, 1, none⟩ = some (.int .i64 x198001_2) := (Qe BK197.out 1).trans rfl
        have hcz142_2 : wr.cell? ⟨gb197, 2, none⟩ = some (.int .i64 0) := (Qe BK197.out 2).trans rfl
        have hcz142_3 : wr.cell? ⟨gb197, 3, none⟩ = some (.int .i64 0) := (Qe BK197.out 3).trans rfl
        have hcz142_4 : wr.cell? ⟨gb197, 4, none⟩ = some (.int .i64 0) := (Qe BK197.out 4).trans rfl
        have hcz142_5 : wr.cell? ⟨gb197, 5, none⟩ = some (.int .i32 0) := (Qe BK197.out 5).trans rfl
        have hcz142_6 : wr.cell? ⟨gb197, 6, none⟩ = some (.string (⟨#[]⟩ : ByteArray)) := (Qe BK197.out 6).trans rfl
        have hfz142_0 := Qd BK197.out 0
        have hfz142_1 := Qd BK197.out 1
        have hfz142_2 := Qd BK197.out 2
        have hfz142_3 := Qd BK197.out 3
        have hfz142_4 := Qd BK197.out 4
        have hfz142_5 := Qd BK197.out 5
        have hfz142_6 := Qd BK197.out 6
        go_wp2_with (first|((with_reducible refine gate_callee (f := 35) rfl ?_); refine gL (some 66) Tryz.func35 #[.int .i64 x198001_2] ?_; (with_reducible refine (curtilageref08_Shape.calls k2 x198001_2 t204 _ A63.out).mono ?_); rintro e w' ⟨rfl, ⟨nd, rfl⟩⟩; refine ⟨_, rfl, ?_⟩; (try (rw [drewN_self wr]; generalize hq_ : World.drewN wr _ = wr; have n0_ : Aside0 (Kd.R Kd.string 9 wr w.heap.size (fun _ => True) v195 t194) := ⟨by rw [← hq_]; exact (rK HO_5)⟩; have n1_ : Aside0 (wr.heap[gb191]? = some (.cells #[.string (⟨#[]⟩ : ByteArray), .int .i64 0, .int .i64 0, .int .i64 0, .int .i64 0, .int .i32 0, .string (⟨#[]⟩ : ByteArray)] 40 (0, 0))) := ⟨by rw [← hq_]; exact (bK BK191)⟩; have n2_ : Aside0 (wr.heap[gb197]? = some (.cells #[.string (⟨#[]⟩ : ByteArray), .int .i64 x198001_2, .int .i64 0, .int .i64 0, .int .i64 0, .int .i32 0, .string (⟨#[]⟩ : ByteArray)] 40 (0, 0))) := ⟨by rw [← hq_]; exact (bK BK197)⟩; have n3_ : Aside0 (Below w.heap.size w wr) := ⟨by rw [← hq_]; exact (by repeat (first|(with_reducible first|exact HB.out|apply Q8|apply Q5|apply Q9|refine Q6 ?_ GE191.out|refine Q6 ?_ GE197.out)|exact HB.out))⟩; clear HO_5 BK191 BK197 HB hq_; have HO_5 := n0_; have BK191 := n1_; have BK197 := n2_; have HB := n3_; clear n0_ n1_ n2_ n3_)); obtain ⟨Ao143, co143, eo143⟩ := Kd.R_slice HO_5.out; subst eo143; have hcz145_0 : wr.cell? ⟨gb197, 0, none⟩ = some (.string (⟨#[]⟩ : ByteArray)) := (Qe BK197.out 0).trans rfl; have hcz145_1 : wr.cell? ⟨gb197, 1, none⟩ = some (.int .i64 x198001_2) := (Qe BK197.out 1).trans rfl; have hcz145_2 : wr.cell? ⟨gb197, 2, none⟩ = some (.int .i64 0) := (Qe BK197.out 2).trans rfl; have hcz145_3 : wr.cell? ⟨gb197, 3, none⟩ = some (.int .i64 0) := (Qe BK197.out 3).trans rfl; have hcz145_4 : wr.cell? ⟨gb197, 4, none⟩ = some (.int .i64 0) := (Qe BK197.out 4).trans rfl; have hcz145_5 : wr.cell? ⟨gb197, 5, none⟩ = some (.int .i32 0) := (Qe BK197.out 5).trans rfl; have hcz145_6 : wr.cell? ⟨gb197, 6, none⟩ = some (.string (⟨#[]⟩ : ByteArray)) := (Qe BK197.out 6).trans rfl; have hfz145_0 := Qd BK197.out 0; have hfz145_1 := Qd BK197.out 1; have hfz145_2 := Qd BK197.out 2; have hfz145_3 := Qd BK197.out 3; have hfz145_4 := Qd BK197.out 4; have hfz145_5 := Qd BK197.out 5; have hfz145_6 := Qd BK197.out 6; have hcz144_0 : wr.cell? ⟨gb191, 0, none⟩ = some (.string (⟨#[]⟩ : ByteArray)) := (Qe BK191.out 0).trans rfl; have hcz144_1 : wr.cell? ⟨gb191, 1, none⟩ = some (.int .i64 0) := (Qe BK191.out 1).trans rfl; have hcz144_2 : wr.cell? ⟨gb191, 2, none⟩ = some (.int .i64 0) := (Qe BK191.out 2).trans rfl; have hcz144_3 : wr.cell? ⟨gb191, 3, none⟩ = some (.int .i64 0) := (Qe BK191.out 3).trans rfl; have hcz144_4 : wr.cell? ⟨gb191, 4, none⟩ = some (.int .i64 0) := (Qe BK191.out 4).trans rfl; have hcz144_5 : wr.cell? ⟨gb191, 5, none⟩ = some (.int .i32 0) := (Qe BK191.out 5).trans rfl; have hcz144_6 : wr.cell? ⟨gb191, 6, none⟩ = some (.string (⟨#[]⟩ : ByteArray)) := (Qe BK191.out 6).trans rfl; have hfz144_0 := Qd BK191.out 0; have hfz144_1 := Qd BK191.out 1; have hfz144_2 := Qd BK191.out 2; have hfz144_3 := Qd BK191.out 3; have hfz144_4 := Qd BK191.out 4; have hfz144_5 := Qd BK191.out 5; have hfz144_6 := Qd BK191.out 6))
        refine bodyPost_ret (results_ct rfl _ _ gb191 40 #[.string (⟨#[]⟩ : ByteArray), .int .i64 x198001_2, .int .i64 0, .int .i64 0, .int .i64 0, .int .i32 0, .string (⟨#[]⟩ : ByteArray)] (0, 0) _ rfl (by (with_reducible repeat (first|refine Qa ?_ _|refine Qb ?_|refine Q7 ?_ _)); refine blk_put (cs := #[.string (⟨#[]⟩ : ByteArray), .int .i64 x198001_2, .int .i64 0, .int .i64 0, .int .i64 0, .int .i32 0, .string (⟨#[]⟩ : ByteArray)]) ?_ 6 _ rfl; (with_reducible repeat (first|refine Qa ?_ _|refine Qb ?_|refine Q7 ?_ _)); refine blk_put (cs := #[.string (⟨#[]⟩ : ByteArray), .int .i64 x198001_2, .int .i64 0, .int .i64 0, .int .i64 0, .int .i32 0, .string (⟨#[]⟩ : ByteArray)]) ?_ 5 _ rfl; (with_reducible repeat (first|refine Qa ?_ _|refine Qb ?_|refine Q7 ?_ _)); refine blk_put (cs := #[.string (⟨#[]⟩ : ByteArray), .int .i64 x198001_2, .int .i64 0, .int .i64 0, .int .i64 0, .int .i32 0, .string (⟨#[]⟩ : ByteArray)]) ?_ 4 _ rfl; (with_reducible repeat (first|refine Qa ?_ _|refine Qb ?_|refine Q7 ?_ _)); refine blk_put (cs := #[.string (⟨#[]⟩ : ByteArray), .int .i64 x198001_2, .int .i64 0, .int .i64 0, .int .i64 0, .int .i32 0, .string (⟨#[]⟩ : ByteArray)]) ?_ 3 _ rfl; (with_reducible repeat (first|refine Qa ?_ _|refine Qb ?_|refine Q7 ?_ _)); refine blk_put (cs := #[.string (⟨#[]⟩ : ByteArray), .int .i64 x198001_2, .int .i64 0, .int .i64 0, .int .i64 0, .int .i32 0, .string (⟨#[]⟩ : ByteArray)]) ?_ 2 _ rfl; (with_reducible repeat (first|refine Qa ?_ _|refine Qb ?_|refine Q7 ?_ _)); refine blk_put (cs := #[.string (⟨#[]⟩ : ByteArray), .int .i64 0, .int .i64 0, .int .i64 0, .int .i64 0, .int .i32 0, .string (⟨#[]⟩ : ByteArray)]) ?_ 1 _ rfl; (with_reducible repeat (first|refine Qa ?_ _|refine Qb ?_|refine Q7 ?_ _)); refine blk_put (cs := #[.string (⟨#[]⟩ : ByteArray), .int .i64 0, .int .i64 0, .int .i64 0, .int .i64 0, .int .i32 0, .string (⟨#[]⟩ : ByteArray)]) ?_ 0 _ rfl; (with_reducible repeat (first|refine Qa ?_ _|refine Qb ?_|refine Q7 ?_ _)); exact BK191.out) Tryz.underlying40 rfl (by kernel_rfl)) rfl ?_
        exact ⟨by first|rfl|(simp [errW_none, errW_some] <;> rfl)|(simp [*, errW_none, errW_some] <;> rfl), by repeat (first|(with_reducible first|exact HB.out|apply Q8|apply Q5|apply Q9|refine Q6 ?_ GE191.out|refine Q6 ?_ GE197.out)|exact HB.out)⟩

end Go.Proofs.YtbelnkdbghggmaaGreatDoor.X
