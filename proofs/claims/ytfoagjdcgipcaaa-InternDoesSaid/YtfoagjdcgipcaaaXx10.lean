/- Walks of Go functions: each proves that the call answers what the Lean function of its name computes, wherever that is told; written by a program of this work out of the translation. -/
import Derived.Test.YtfoagjdcgipcaaaXx0
import Derived.Test.YtfoagjdcgipcaaaJa
import Derived.Test.YtfoagjdcgipcaaaJt
import Derived.Test.YtfoagjdcgipcaaaJu
import Derived.Test.YtfoagjdcgipcaaaJv
import Derived.Test.YtfoagjdcgipcaaaJw
import Derived.Test.YtfoagjdcgipcaaaJx
import Derived.Test.YtfoagjdcgipcaaaJq
import Derived.Test.YtfoagjdcgipcaaaJr
import Derived.Test.YtfoagjdcgipcaaaJy
import Derived.Test.YtfoagjdcgipcaaaKa
import Derived.Test.YtfoagjdcgipcaaaKb
import Derived.Test.YtfoagjdcgipcaaaKc
namespace Go.Proofs.Ytfoagjdcgipcaaa.X
open Go.RowKit Go.Proofs.YtfoagjdcgipcaaaW.PrintWords Go.Proofs.YtfoagjdcgipcaaaW.PrintLast

set_option linter.unusedVariables false
set_option linter.unusedSimpArgs false

/-! ### intern_Fit: function 16 -/
mutual
def intern_Fit.j0 : Nat → Bool → List (List (S57)) → List Int → Option (Bool)
 | 0, _, _, _ => none
 | k + 1, x33, x256000, x256001 => if x33 = true then (some false) else (intern_Fit.l0 k x256001 (x256001.length : Int) 0 x256000 x256001)
def intern_Fit.l0 : Nat → List Int → Int → Int → List (List (S57)) → List Int → Option (Bool)
 | 0, _, _, _, _, _ => none
 | k + 1, x35, x36, x37, x256000, x256001 => if x37 < x36 then (if 0 ≤ x37 then (if x37 < (x35.length : Int) then (if x37 < (x256000.length : Int) then (if (rd x35 x37) < 0 then (intern_Fit.j2 k x37 (rd x35 x37) (rd_L3 x256000 x37) x35 x36 x37 true x256000 x256001) else (if (rd x35 x37) > 1073741824 then (intern_Fit.j2 k x37 (rd x35 x37) (rd_L3 x256000 x37) x35 x36 x37 true x256000 x256001) else ((intern_good.f k (rd_L3 x256000 x37)).bind fun t259 => (intern_Fit.j2 k x37 (rd x35 x37) (rd_L3 x256000 x37) x35 x36 x37 (!t259) x256000 x256001)))) else (none)) else (none)) else (none)) else (some true)
def intern_Fit.j2 : Nat → Int → Int → List (S57) → List Int → Int → Int → Bool → List (List (S57)) → List Int → Option (Bool)
 | 0, _, _, _, _, _, _, _, _, _ => none
 | k + 1, x4, x5, x6, x35, x36, x37, x57, x256000, x256001 => if x57 = true then (some false) else (if x5 = 0 then (if (x6.length : Int) > 0 then (some false) else (intern_Fit.l0 k x35 x36 (wrap64 (x37 + 1)) x256000 x256001)) else ((intern_Find.f x256000 x256001 x6).bind fun bt260 => (if bt260.1 = x4 then (intern_Fit.l0 k x35 x36 (wrap64 (x37 + 1)) x256000 x256001) else (some false))))
end
def intern_Fit.f (k : Nat) (l0_0 : List (List (S57))) (l0_1 : List Int) : Option (Bool) := if (l0_0.length : Int) = (l0_1.length : Int) then (if (l0_1.length : Int) > 64 then (intern_Fit.j0 k true l0_0 l0_1) else (if (l0_1.length : Int) > 0 then (if 0 ≤ (wrap64 ((l0_1.length : Int) - 1)) then (if (wrap64 ((l0_1.length : Int) - 1)) < (l0_1.length : Int) then (intern_Fit.j0 k ((rd l0_1 (wrap64 ((l0_1.length : Int) - 1))) == 0) l0_0 l0_1) else (none)) else (none)) else (intern_Fit.j0 k false l0_0 l0_1))) else (intern_Fit.j0 k true l0_0 l0_1)
set_option maxHeartbeats 8000000 in
set_option maxRecDepth 100000 in
theorem intern_Fit.calls (k : Nat) (A0_0 : Option Addr) (c0_0 : Nat) (l0_0 : List (List (S57))) (A0_1 : Option Addr) (c0_1 : Nat) (l0_1 : List Int) (r : Bool) (w : World) (hr0_0 : Kd.C (Kd.slice 57 k57) w A0_0 l0_0.length l0_0) (hc0_0 : l0_0.length ≤ c0_0) (hr0_1 : Kd.C (Kd.int .i64) w A0_1 l0_1.length l0_1) (hc0_1 : l0_1.length ≤ c0_1) (h : intern_Fit.f k l0_0 l0_1 = some r) :
  Calls Try.prog 16 #[.agg #[.slice A0_0 l0_0.length c0_0, .slice A0_1 l0_1.length c0_1]] w fun e w' => e = .returned (.bool r) ∧ Below w.heap.size w w' := by
 have hu27 := Try.underlying27
 have HR0_0 := Q4 hr0_0
 have HC0_0 := Q4 hc0_0
 clear hr0_0 hc0_0
 have HR0_1 := Q4 hr0_1
 have HC0_1 := Q4 hc0_1
 clear hr0_1 hc0_1
 have HB := Q4 (Below.refl w.heap.size w)
 have H : (if (l0_0.length : Int) = (l0_1.length : Int) then (if (l0_1.length : Int) > 64 then (intern_Fit.j0 k true l0_0 l0_1) else (if (l0_1.length : Int) > 0 then (if 0 ≤ (wrap64 ((l0_1.length : Int) - 1)) then (if (wrap64 ((l0_1.length : Int) - 1)) < (l0_1.length : Int) then (intern_Fit.j0 k ((rd l0_1 (wrap64 ((l0_1.length : Int) - 1))) == 0) l0_0 l0_1) else (none)) else (none)) else (intern_Fit.j0 k false l0_0 l0_1))) else (intern_Fit.j0 k true l0_0 l0_1)) = some r := h
 clear h
 have HC2 := Q4 H
 clear H
 go_enter Try.func16, Try.ntmps16
 go_upto_region 2 with (first|((with_reducible refine gate_dst (N := 1) rfl ?_); refine box_event ?hg (N := 1) ?hd (cs := #[.slice A0_0 l0_0.length c0_0, .slice A0_1 l0_1.length c0_1]) (t := 27) ?hr ?_; (case hd => rfl); (case hg => rfl); (case hr => first|(go_simp; done)|(go_simp; rfl)); intro gb255 hg w3 hbox hb; have n0_ := Q4 (below_step (by repeat (first|(with_reducible first|exact HB.out|apply Q8|apply Q5|apply Q9)|exact HB.out)) hb); have n1_ := Q4 (hbox); have n2_ := Q4 ((by rw [hg]; exact (below_size (by repeat (first|(with_reducible first|exact HB.out|apply Q8|apply Q5|apply Q9)|exact HB.out))) : w.heap.size ≤ gb255)); have n3_ := Q4 ((by rw [hg]; exact (below_size (by repeat (first|(with_reducible first|exact HB.out|apply Q8|apply Q5|apply Q9)|exact HB.out))) : w.heap.size ≤ gb255)); clear HB; have HB := n0_; have BK255 := n1_; have GW255 := n2_; have GE255 := n3_; clear n0_ n1_ n2_ n3_; clear hb hbox hg; have hcz4_0 : w3.cell? ⟨gb255, 0, none⟩ = some (.slice A0_0 l0_0.length c0_0) := (blk_cell BK255.out 0).trans rfl; have hcz4_1 : w3.cell? ⟨gb255, 1, none⟩ = some (.slice A0_1 l0_1.length c0_1) := (blk_cell BK255.out 1).trans rfl; have hfz4_0 := blk_frozen BK255.out 0; have hfz4_1 := blk_frozen BK255.out 1))
 (try simp only [Act.put, Q1,Q2,Q3])
 go_cut [33] (fun v33 wc => ∃ (kq : Nat) (x33_1 : Bool), v33 = .bool x33_1 ∧ Aside0 (intern_Fit.j0 kq x33_1 l0_0 l0_1 = some r) ∧ Aside0 (kq ≤ k) ∧ Aside0 (wc.heap[gb255]? = some (.cells #[(.slice A0_0 l0_0.length c0_0), (.slice A0_1 l0_1.length c0_1)] 27 (0, 0))) ∧ Aside0 (Below w.heap.size w wc))
 case first =>
  have H := HC2.out
  clear HC2
  by_cases c5 : (l0_0.length : Int) = (l0_1.length : Int)
  ·rw [if_pos c5] at H
   have c5b0 : ((l0_0.length : Int) == (l0_1.length : Int)) = true := beq_iff_eq.mpr c5
   have c5b1 : ((l0_0.length : Int) != (l0_1.length : Int)) = false := bne_eq_false_iff_eq.mpr c5
   have c5b2 : (l0_0.length == l0_1.length) = true := by first | simpa using c5|(simp at c5 ⊢; omega)
   clear c5
   (first | rw [c5b0]|(simp only [i64_w, i32_w]; rw [c5b0])|skip)
   by_cases c6 : (l0_1.length : Int) > 64
   ·rw [if_pos c6] at H
    have c6b0 : decide (64 < (l0_1.length : Int)) = true := decide_eq_true c6
    have c6b1 : decide (64 < l0_1.length) = true := decide_eq_true (by omega)
    clear c6
    have H' := Q4 H
    clear H
    have hcz7_0 : w3.cell? ⟨gb255, 0, none⟩ = some (.slice A0_0 l0_0.length c0_0) := (blk_cell BK255.out 0).trans rfl
    have hcz7_1 : w3.cell? ⟨gb255, 1, none⟩ = some (.slice A0_1 l0_1.length c0_1) := (blk_cell BK255.out 1).trans rfl
    have hfz7_0 := blk_frozen BK255.out 0
    have hfz7_1 := blk_frozen BK255.out 1
    go_wp2
    go_meet
    case rel => exact ⟨_, (true), (by first|rfl|(simp; done)|(simp [*]; done)), H', ⟨by first|omega|exact Nat.le_refl _⟩, ⟨by (with_reducible repeat (first|refine Qa ?_ _|refine Qb ?_|refine Q7 ?_ _)); exact BK255.out⟩, ⟨by repeat (first|(with_reducible first|exact HB.out|apply Q8|apply Q5|apply Q9|refine Q6 ?_ GE255.out)|exact HB.out)⟩⟩
   ·rw [if_neg c6] at H
    have c6b0 : decide (64 < (l0_1.length : Int)) = false := decide_eq_false c6
    have c6b1 : decide (64 < l0_1.length) = false := decide_eq_false (by omega)
    clear c6
    by_cases c8 : (l0_1.length : Int) > 0
    ·rw [if_pos c8] at H
     have c8b0 : decide (0 < (l0_1.length : Int)) = true := decide_eq_true c8
     have c8b1 : decide (0 < l0_1.length) = true := decide_eq_true (by omega)
     clear c8
     obtain ⟨ji9, hji9⟩ : ∃ j_ : Int, (wrap64 ((l0_1.length : Int) - 1)) = j_ := ⟨_, rfl⟩
     replace H : (if 0 ≤ (ji9) then (if (ji9) < (l0_1.length : Int) then (intern_Fit.j0 k ((rd l0_1 (ji9)) == 0) l0_0 l0_1) else (none)) else (none)) = some r := by first|(rw [hji9] at H; exact H)|(simp only [hji9] at H ⊢; exact H)
     have hji9w : (IntKind.i64.wrap ((l0_1.length : Int) - 1)) = ji9 := (i64_w _).trans hji9
     by_cases c10 : 0 ≤ (ji9)
     ·rw [if_pos c10] at H
      have c10b0 : decide (0 ≤ (ji9)) = true := decide_eq_true c10
      clear c10
      by_cases c11 : (ji9) < (l0_1.length : Int)
      ·rw [if_pos c11] at H
       have c11b0 : decide ((ji9) < (l0_1.length : Int)) = true := decide_eq_true c11
       clear c11
       have H' := Q4 H
       clear H
       have hcz12_0 : w3.cell? ⟨gb255, 0, none⟩ = some (.slice A0_0 l0_0.length c0_0) := (blk_cell BK255.out 0).trans rfl
       have hcz12_1 : w3.cell? ⟨gb255, 1, none⟩ = some (.slice A0_1 l0_1.length c0_1) := (blk_cell BK255.out 1).trans rfl
       have hfz12_0 := blk_frozen BK255.out 0
       have hfz12_1 := blk_frozen BK255.out 1
       have p256 : 0 ≤ ((ji9) : Int) := Qc (by first|(with_reducible assumption)|assumption)
       have q256 : (ji9) < (l0_1.length : Int) := Qc (by first|(with_reducible assumption)|assumption)
       obtain ⟨ad256, e256, hx256_0⟩ := Kd.at_int HR0_1.out (ji9) p256 q256
       cases e256
       replace hx256_0 := (HB.out.cell (World.block_lt_of_cell? w _ hx256_0)).trans hx256_0
       replace p256 := eq_true p256
       replace q256 := eq_true q256
       go_wp2
       go_meet
       case rel => exact ⟨_, (((rd l0_1 (ji9)) == 0)), (by first|rfl|(simp; done)|(simp only [← hji9] <;> (first|rfl | simp))|(simp [*]; done)), H', ⟨by first|omega|exact Nat.le_refl _⟩, ⟨by (with_reducible repeat (first|refine Qa ?_ _|refine Qb ?_|refine Q7 ?_ _)); exact BK255.out⟩, ⟨by repeat (first|(with_reducible first|exact HB.out|apply Q8|apply Q5|apply Q9|refine Q6 ?_ GE255.out)|exact HB.out)⟩⟩
      ·rw [if_neg c11] at H
       exact absurd H (by simp)
     ·rw [if_neg c10] at H
      exact absurd H (by simp)
    ·rw [if_neg c8] at H
     have c8b0 : decide (0 < (l0_1.length : Int)) = false := decide_eq_false c8
     have c8b1 : decide (0 < l0_1.length) = false := decide_eq_false (by omega)
     clear c8
     have H' := Q4 H
     clear H
     have hcz13_0 : w3.cell? ⟨gb255, 0, none⟩ = some (.slice A0_0 l0_0.length c0_0) := (blk_cell BK255.out 0).trans rfl
     have hcz13_1 : w3.cell? ⟨gb255, 1, none⟩ = some (.slice A0_1 l0_1.length c0_1) := (blk_cell BK255.out 1).trans rfl
     have hfz13_0 := blk_frozen BK255.out 0
     have hfz13_1 := blk_frozen BK255.out 1
     go_wp2
     go_meet
     case rel => exact ⟨_, (false), (by first|rfl|(simp; done)|(simp [*]; done)), H', ⟨by first|omega|exact Nat.le_refl _⟩, ⟨by (with_reducible repeat (first|refine Qa ?_ _|refine Qb ?_|refine Q7 ?_ _)); exact BK255.out⟩, ⟨by repeat (first|(with_reducible first|exact HB.out|apply Q8|apply Q5|apply Q9|refine Q6 ?_ GE255.out)|exact HB.out)⟩⟩
  ·rw [if_neg c5] at H
   have c5b0 : ((l0_0.length : Int) == (l0_1.length : Int)) = false := beq_eq_false_iff_ne.mpr c5
   have c5b1 : ((l0_0.length : Int) != (l0_1.length : Int)) = true := bne_iff_ne.mpr c5
   have c5b2 : (l0_0.length == l0_1.length) = false := by first | simpa using c5|(simp at c5 ⊢; omega)
   (first | rw [c5b0]|(simp only [i64_w, i32_w]; rw [c5b0])|skip)
   have H' := Q4 H
   clear H
   have hcz14_0 : w3.cell? ⟨gb255, 0, none⟩ = some (.slice A0_0 l0_0.length c0_0) := (blk_cell BK255.out 0).trans rfl
   have hcz14_1 : w3.cell? ⟨gb255, 1, none⟩ = some (.slice A0_1 l0_1.length c0_1) := (blk_cell BK255.out 1).trans rfl
   have hfz14_0 := blk_frozen BK255.out 0
   have hfz14_1 := blk_frozen BK255.out 1
   go_wp2
   go_meet
   case rel => exact ⟨_, (true), (by first|rfl|(simp; done)|(simp [*]; done)), H', ⟨by first|omega|exact Nat.le_refl _⟩, ⟨by (with_reducible repeat (first|refine Qa ?_ _|refine Qb ?_|refine Q7 ?_ _)); exact BK255.out⟩, ⟨by repeat (first|(with_reducible first|exact HB.out|apply Q8|apply Q5|apply Q9|refine Q6 ?_ GE255.out)|exact HB.out)⟩⟩
 case rest =>
  clear HC2
  (try clear c1);(try clear p2);(try clear q2);(try clear hx2);(try clear c5);(try clear c5b0);(try clear c5b1);(try clear c5b2);(try clear c6);(try clear c6b0);(try clear c6b1);(try clear p6);(try clear c8);(try clear c8b0);(try clear c8b1);(try clear c10);(try clear c10b0);(try clear c11);(try clear c11b0);(try clear hcz12_0);(try clear hcz12_1);(try clear hcz13_0);(try clear hcz13_1);(try clear hcz14_0);(try clear hcz14_1);(try clear hcz4_0);(try clear hcz4_1);(try clear hcz7_0);(try clear hcz7_1);(try clear hfz12_0);(try clear hfz12_1);(try clear hfz13_0);(try clear hfz13_1);(try clear hfz14_0);(try clear hfz14_1);(try clear hfz4_0);(try clear hfz4_1);(try clear hfz7_0);(try clear hfz7_1);(try clear hx256_0);(try clear p256);(try clear q256)
  obtain ⟨kq, x33_1, rfl, HA, HJ1, BK255, HB⟩ := hcut
  cases kq with
  | zero => exact absurd HA.out (by simp [intern_Fit.j0])
  | succ kj1 =>
   have H := HA.out
   clear HA
   simp only [intern_Fit.j0] at H
   by_cases c15 : x33_1 = true
   ·subst c15
    have H1 : (some false) = some r := by rw [if_pos rfl] at H; exact H
    clear H
    have H := H1
    clear H1
    obtain rfl := Option.some.inj H
    go_wp2
    go_ret
    exact ⟨by first|rfl|(simp [errW_none, errW_some] <;> rfl)|(simp [*, errW_none, errW_some] <;> rfl), by repeat (first|(with_reducible first|exact HB.out|apply Q8|apply Q5|apply Q9|refine Q6 ?_ GE255.out)|exact HB.out)⟩
   ·replace c15 := Bool.eq_false_iff.mpr c15
    subst c15
    have H1 : (intern_Fit.l0 kj1 l0_1 (l0_1.length : Int) 0 l0_0 l0_1) = some r := by rw [if_neg (show ¬ (false = true) by decide)] at H; exact H
    clear H
    have H := H1
    clear H1
    have H' := Q4 H
    clear H
    have hcz16_0 : wc.cell? ⟨gb255, 0, none⟩ = some (.slice A0_0 l0_0.length c0_0) := (blk_cell BK255.out 0).trans rfl
    have hcz16_1 : wc.cell? ⟨gb255, 1, none⟩ = some (.slice A0_1 l0_1.length c0_1) := (blk_cell BK255.out 1).trans rfl
    have hfz16_0 := blk_frozen BK255.out 0
    have hfz16_1 := blk_frozen BK255.out 1
    go_wp2
    go_loopg [37] kj1 (fun kq v37 w' => ∃ (x37_2 : Int), v37 = .int .i64 x37_2 ∧ Aside0 (intern_Fit.l0 kq l0_1 (l0_1.length : Int) x37_2 l0_0 l0_1 = some r) ∧ Aside0 (kq ≤ kj1) ∧ Aside0 (w'.heap[gb255]? = some (.cells #[(.slice A0_0 l0_0.length c0_0), (.slice A0_1 l0_1.length c0_1)] 27 (0, 0))) ∧ Aside0 (Below w.heap.size w w'))
    case atStart => exact ⟨(0), (by first|rfl|(simp; done)|(simp [*]; done)), H', ⟨Nat.le_refl _⟩, ⟨by (with_reducible repeat (first|refine Qa ?_ _|refine Qb ?_|refine Q7 ?_ _)); exact BK255.out⟩, ⟨by repeat (first|(with_reducible first|exact HB.out|apply Q8|apply Q5|apply Q9|refine Q6 ?_ GE255.out)|exact HB.out)⟩⟩
    case round =>
     clear H'
     (try clear c1);(try clear p2);(try clear q2);(try clear hx2);(try clear c5);(try clear c5b0);(try clear c5b1);(try clear c5b2);(try clear c6);(try clear c6b0);(try clear c6b1);(try clear p6);(try clear c8);(try clear c8b0);(try clear c8b1);(try clear c10);(try clear c10b0);(try clear c11);(try clear c11b0);(try clear c15);(try clear c16);(try clear hcz12_0);(try clear hcz12_1);(try clear hcz13_0);(try clear hcz13_1);(try clear hcz14_0);(try clear hcz14_1);(try clear hcz16_0);(try clear hcz16_1);(try clear hcz4_0);(try clear hcz4_1);(try clear hcz7_0);(try clear hcz7_1);(try clear hfz12_0);(try clear hfz12_1);(try clear hfz13_0);(try clear hfz13_1);(try clear hfz14_0);(try clear hfz14_1);(try clear hfz16_0);(try clear hfz16_1);(try clear hfz4_0);(try clear hfz4_1);(try clear hfz7_0);(try clear hfz7_1);(try clear hx256_0);(try clear p2);(try clear p256);(try clear p6);(try clear q2);(try clear q256)
     obtain ⟨x37_2, rfl, HA, HK2, BK255, HB⟩ := hrel
     cases gk with
     | zero => exact absurd HA.out (by simp [intern_Fit.l0])
     | succ k2 =>
      have H := HA.out
      clear HA
      simp only [intern_Fit.l0] at H
      by_cases c17 : x37_2 < (l0_1.length : Int)
      ·rw [if_pos c17] at H
       have c17b0 : decide (x37_2 < (l0_1.length : Int)) = true := decide_eq_true c17
       clear c17
       by_cases c18 : 0 ≤ x37_2
       ·rw [if_pos c18] at H
        have c18b0 : decide (0 ≤ x37_2) = true := decide_eq_true c18
        clear c18
        by_cases c19 : x37_2 < (l0_1.length : Int)
        ·rw [if_pos c19] at H
         have c19b0 : decide (x37_2 < (l0_1.length : Int)) = true := decide_eq_true c19
         clear c19
         by_cases c20 : x37_2 < (l0_0.length : Int)
         ·rw [if_pos c20] at H
          have c20b0 : decide (x37_2 < (l0_0.length : Int)) = true := decide_eq_true c20
          clear c20
          have HC21 := Q4 H
          clear H
          have p257 : 0 ≤ (x37_2 : Int) := Qc (by first|(with_reducible assumption)|assumption)
          have q257 : x37_2 < (l0_1.length : Int) := Qc (by first|(with_reducible assumption)|assumption)
          obtain ⟨ad257, e257, hx257_0⟩ := Kd.at_int HR0_1.out x37_2 p257 q257
          cases e257
          replace hx257_0 := (HB.out.cell (World.block_lt_of_cell? w _ hx257_0)).trans hx257_0
          replace p257 := eq_true p257
          replace q257 := eq_true q257
          have hcz22_0 : wr.cell? ⟨gb255, 0, none⟩ = some (.slice A0_0 l0_0.length c0_0) := (blk_cell BK255.out 0).trans rfl
          have hcz22_1 : wr.cell? ⟨gb255, 1, none⟩ = some (.slice (some ad257) l0_1.length c0_1) := (blk_cell BK255.out 1).trans rfl
          have hfz22_0 := blk_frozen BK255.out 0
          have hfz22_1 := blk_frozen BK255.out 1
          have p258 : 0 ≤ (x37_2 : Int) := Qc (by first|(with_reducible assumption)|assumption)
          have q258 : x37_2 < (l0_0.length : Int) := Qc (by first|(with_reducible assumption)|assumption)
          obtain ⟨ad258, A258_0, c258_0, e258, hx258_0, hl258_0, hi258_0⟩ := at_L3 HR0_0.out x37_2 p258 q258
          cases e258
          replace hx258_0 := (HB.out.cell (World.block_lt_of_cell? w _ hx258_0)).trans hx258_0
          have HR258_0 := Q4 hi258_0
          have HC258_0 := Q4 hl258_0
          clear hi258_0 hl258_0
          replace p258 := eq_true p258
          replace q258 := eq_true q258
          go_upto_region 8 with (fail)
          go_cut [57] (fun v57 wc => ∃ (kq : Nat) (x57_20 : Bool), v57 = .bool x57_20 ∧ Aside0 (intern_Fit.j2 kq x37_2 (rd l0_1 x37_2) (rd_L3 l0_0 x37_2) l0_1 (l0_1.length : Int) x37_2 x57_20 l0_0 l0_1 = some r) ∧ Aside0 (kq ≤ k2) ∧ Aside0 (wc.heap[gb255]? = some (.cells #[(.slice (some ad258) l0_0.length c0_0), (.slice (some ad257) l0_1.length c0_1)] 27 (0, 0))) ∧ Aside0 (Below w.heap.size w wc))
          case first =>
           have H := HC21.out
           clear HC21
           by_cases c23 : (rd l0_1 x37_2) < 0
           ·rw [if_pos c23] at H
            have c23b0 : decide ((rd l0_1 x37_2) < 0) = true := decide_eq_true c23
            clear c23
            (first | rw [c23b0]|(simp only [i64_w, i32_w]; rw [c23b0])|skip)
            have H' := Q4 H
            clear H
            go_wp2
            go_meet
            case rel => exact ⟨_, (true), (by first|rfl|(simp; done)|(simp [*]; done)), H', ⟨by have := HJ1.out; have := HK2.out; first|omega|exact Nat.le_refl _⟩, ⟨by (with_reducible repeat (first|refine Qa ?_ _|refine Qb ?_|refine Q7 ?_ _)); exact BK255.out⟩, ⟨by repeat (first|(with_reducible first|exact HB.out|apply Q8|apply Q5|apply Q9|refine Q6 ?_ GE255.out)|exact HB.out)⟩⟩
           ·rw [if_neg c23] at H
            have c23b0 : decide ((rd l0_1 x37_2) < 0) = false := decide_eq_false c23
            clear c23
            (first | rw [c23b0]|(simp only [i64_w, i32_w]; rw [c23b0])|skip)
            by_cases c24 : (rd l0_1 x37_2) > 1073741824
            ·rw [if_pos c24] at H
             have c24b0 : decide (1073741824 < (rd l0_1 x37_2)) = true := decide_eq_true c24
             clear c24
             have H' := Q4 H
             clear H
             go_wp2
             go_meet
             case rel => exact ⟨_, (true), (by first|rfl|(simp; done)|(simp [*]; done)), H', ⟨by have := HJ1.out; have := HK2.out; first|omega|exact Nat.le_refl _⟩, ⟨by (with_reducible repeat (first|refine Qa ?_ _|refine Qb ?_|refine Q7 ?_ _)); exact BK255.out⟩, ⟨by repeat (first|(with_reducible first|exact HB.out|apply Q8|apply Q5|apply Q9|refine Q6 ?_ GE255.out)|exact HB.out)⟩⟩
            ·rw [if_neg c24] at H
             have c24b0 : decide (1073741824 < (rd l0_1 x37_2)) = false := decide_eq_false c24
             clear c24
             replace H := Option.bind_eq_some_iff.mp H
             obtain ⟨t259, A250, H⟩ := H
             replace H : (intern_Fit.j2 k2 x37_2 (rd l0_1 x37_2) (rd_L3 l0_0 x37_2) l0_1 (l0_1.length : Int) x37_2 (!t259) l0_0 l0_1) = some r := H
             have A25 := Q4 A250
             clear A250
             have H' := Q4 H
             clear H
             go_wp2_with (first|(go_at_call 26; (with_reducible refine (intern_good.calls k2 _ _ (rd_L3 l0_0 x37_2) t259 _ ?side1 ?side2 A25.out).mono ?_); (case side1 => repeat (first|exact (Kd.C_below HR258_0.out HB.out)|(with_reducible refine Kd.C_alloc ?_ _)|(with_reducible refine Kd.C_drewN ?_ _)|(with_reducible refine Kd.C_drew ?_))); (case side2 => exact HC258_0.out); rintro e w26 ⟨rfl, hb⟩; have n0_ := Q4 (blk_below (g := gb255) (o := .cells #[.slice (some ad258) l0_0.length c0_0, .slice (some ad257) l0_1.length c0_1] 27 (0, 0)) (by (with_reducible repeat (first|refine Qa ?_ _|refine Qb ?_|refine Q7 ?_ _)); exact BK255.out) hb); have n1_ := Q4 (below_step (by repeat (first|(with_reducible first|exact HB.out|apply Q8|apply Q5|apply Q9|refine Q6 ?_ GE255.out)|exact HB.out)) hb); clear BK255; clear HB; have BK255 := n0_; have HB := n1_; clear n0_ n1_;(try clear hb);(try clear hb2);(try clear hk);(try clear hi)))
             go_meet
             case rel => exact ⟨_, (!t259), (by first|rfl|(simp; done)|(simp [*]; done)), H', ⟨by have := HJ1.out; have := HK2.out; first|omega|exact Nat.le_refl _⟩, ⟨by (with_reducible repeat (first|refine Qa ?_ _|refine Qb ?_|refine Q7 ?_ _)); exact BK255.out⟩, ⟨by repeat (first|(with_reducible first|exact HB.out|apply Q8|apply Q5|apply Q9|refine Q6 ?_ GE255.out)|exact HB.out)⟩⟩
          case rest =>
           clear HC21
           (try clear c1);(try clear c2);(try clear p2);(try clear q2);(try clear hx2);(try clear c5);(try clear c5b0);(try clear c5b1);(try clear c5b2);(try clear c6);(try clear c6b0);(try clear c6b1);(try clear p6);(try clear c8);(try clear c8b0);(try clear c8b1);(try clear c10);(try clear c10b0);(try clear c11);(try clear c11b0);(try clear c15);(try clear c16);(try clear c17);(try clear c17b0);(try clear c18);(try clear c18b0);(try clear c19);(try clear c19b0);(try clear c20);(try clear c20b0);(try clear c23);(try clear c23b0);(try clear c24);(try clear c24b0);(try clear c25);(try clear p25);(try clear q25);(try clear hx25);(try clear hcz12_0);(try clear hcz12_1);(try clear hcz13_0);(try clear hcz13_1);(try clear hcz14_0);(try clear hcz14_1);(try clear hcz16_0);(try clear hcz16_1);(try clear hcz22_0);(try clear hcz22_1);(try clear hcz4_0);(try clear hcz4_1);(try clear hcz7_0);(try clear hcz7_1);(try clear hfz12_0);(try clear hfz12_1);(try clear hfz13_0);(try clear hfz13_1);(try clear hfz14_0);(try clear hfz14_1);(try clear hfz16_0);(try clear hfz16_1);(try clear hfz22_0);(try clear hfz22_1);(try clear hfz4_0);(try clear hfz4_1);(try clear hfz7_0);(try clear hfz7_1);(try clear hx256_0);(try clear hx257_0);(try clear hx258_0);(try clear p2);(try clear p256);(try clear p257);(try clear p258);(try clear p6);(try clear q2);(try clear q256);(try clear q257);(try clear q258)
           obtain ⟨kq, x57_20, rfl, HA, HJ20, BK255, HB⟩ := hcut
           cases kq with
           | zero => exact absurd HA.out (by simp [intern_Fit.j2])
           | succ kj20 =>
            have H := HA.out
            clear HA
            simp only [intern_Fit.j2] at H
            by_cases c27 : x57_20 = true
            ·subst c27
             have H1 : (some false) = some r := by rw [if_pos rfl] at H; exact H
             clear H
             have H := H1
             clear H1
             obtain rfl := Option.some.inj H
             go_wp2
             go_ret
             exact ⟨by first|rfl|(simp [errW_none, errW_some] <;> rfl)|(simp [*, errW_none, errW_some] <;> rfl), by repeat (first|(with_reducible first|exact HB.out|apply Q8|apply Q5|apply Q9|refine Q6 ?_ GE255.out)|exact HB.out)⟩
            ·replace c27 := Bool.eq_false_iff.mpr c27
             subst c27
             have H1 : (if (rd l0_1 x37_2) = 0 then (if ((rd_L3 l0_0 x37_2).length : Int) > 0 then (some false) else (intern_Fit.l0 kj20 l0_1 (l0_1.length : Int) (wrap64 (x37_2 + 1)) l0_0 l0_1)) else ((intern_Find.f l0_0 l0_1 (rd_L3 l0_0 x37_2)).bind fun bt260 => (if bt260.1 = x37_2 then (intern_Fit.l0 kj20 l0_1 (l0_1.length : Int) (wrap64 (x37_2 + 1)) l0_0 l0_1) else (some false)))) = some r := by rw [if_neg (show ¬ (false = true) by decide)] at H; exact H
             clear H
             have H := H1
             clear H1
             by_cases c28 : (rd l0_1 x37_2) = 0
             ·rw [if_pos c28] at H
              have c28b0 : ((rd l0_1 x37_2) == 0) = true := beq_iff_eq.mpr c28
              have c28b1 : ((rd l0_1 x37_2) != 0) = false := bne_eq_false_iff_eq.mpr c28
              clear c28
              by_cases c29 : ((rd_L3 l0_0 x37_2).length : Int) > 0
              ·rw [if_pos c29] at H
               have c29b0 : decide (0 < ((rd_L3 l0_0 x37_2).length : Int)) = true := decide_eq_true c29
               have c29b1 : decide (0 < (rd_L3 l0_0 x37_2).length) = true := decide_eq_true (by omega)
               clear c29
               obtain rfl := Option.some.inj H
               go_wp2
               go_ret
               exact ⟨by first|rfl|(simp [errW_none, errW_some] <;> rfl)|(simp [*, errW_none, errW_some] <;> rfl), by repeat (first|(with_reducible first|exact HB.out|apply Q8|apply Q5|apply Q9|refine Q6 ?_ GE255.out)|exact HB.out)⟩
              ·rw [if_neg c29] at H
               have c29b0 : decide (0 < ((rd_L3 l0_0 x37_2).length : Int)) = false := decide_eq_false c29
               have c29b1 : decide (0 < (rd_L3 l0_0 x37_2).length) = false := decide_eq_false (by omega)
               clear c29
               have H' := Q4 H
               clear H
               go_wp2
               go_roundg kj20
               case measure => have := HJ1.out; have := HK2.out; have := HJ20.out; omega
               case rel => exact ⟨(wrap64 (x37_2 + 1)), (by first|rfl|(simp; done)|(simp [*]; done)), H', ⟨by have := HJ1.out; have := HK2.out; have := HJ20.out; omega⟩, ⟨by (with_reducible repeat (first|refine Qa ?_ _|refine Qb ?_|refine Q7 ?_ _)); exact BK255.out⟩, ⟨by repeat (first|(with_reducible first|exact HB.out|apply Q8|apply Q5|apply Q9|refine Q6 ?_ GE255.out)|exact HB.out)⟩⟩
             ·rw [if_neg c28] at H
              have c28b0 : ((rd l0_1 x37_2) == 0) = false := beq_eq_false_iff_ne.mpr c28
              have c28b1 : ((rd l0_1 x37_2) != 0) = true := bne_iff_ne.mpr c28
              replace H := Option.bind_eq_some_iff.mp H
              obtain ⟨⟨t260, t261⟩, A300, H⟩ := H
              replace H : (if t260 = x37_2 then (intern_Fit.l0 kj20 l0_1 (l0_1.length : Int) (wrap64 (x37_2 + 1)) l0_0 l0_1) else (some false)) = some r := H
              have A30 := Q4 A300
              clear A300
              by_cases c31 : t260 = x37_2
              ·rw [if_pos c31] at H
               have c31b0 : (t260 == x37_2) = true := beq_iff_eq.mpr c31
               have c31b1 : (t260 != x37_2) = false := bne_eq_false_iff_eq.mpr c31
               clear c31
               have H' := Q4 H
               clear H
               have hcz32_0 : wc.cell? ⟨gb255, 0, none⟩ = some (.slice (some ad258) l0_0.length c0_0) := (blk_cell BK255.out 0).trans rfl
               have hcz32_1 : wc.cell? ⟨gb255, 1, none⟩ = some (.slice (some ad257) l0_1.length c0_1) := (blk_cell BK255.out 1).trans rfl
               have hfz32_0 := blk_frozen BK255.out 0
               have hfz32_1 := blk_frozen BK255.out 1
               go_wp2_with (first|((with_reducible refine gate_callee (f := 13) rfl ?_); refine goesL_ (some 66) rfl rfl Try.func13 (by kernel_rfl) rfl #[.agg #[.slice (some ad258) l0_0.length c0_0, .slice (some ad257) l0_1.length c0_1], .slice A258_0 (rd_L3 l0_0 x37_2).length c258_0] rfl (by (try simp only [List.map_toArray, List.map_cons, List.map_nil]); first | done|rfl|(simp only [List.length_drop, List.length_take]; rfl)) ?_; (with_reducible refine (intern_Find.calls _ _ l0_0 _ _ l0_1 _ _ (rd_L3 l0_0 x37_2) t260 t261 _ ?side1 ?side2 ?side3 ?side4 ?side5 ?side6 A30.out).mono ?_); (case side1 => repeat (first|exact (Kd.C_below HR0_0.out HB.out)|(with_reducible refine Kd.C_alloc ?_ _)|(with_reducible refine Kd.C_drewN ?_ _)|(with_reducible refine Kd.C_drew ?_))); (case side2 => exact HC0_0.out); (case side3 => repeat (first|exact (Kd.C_below HR0_1.out HB.out)|(with_reducible refine Kd.C_alloc ?_ _)|(with_reducible refine Kd.C_drewN ?_ _)|(with_reducible refine Kd.C_drew ?_))); (case side4 => exact HC0_1.out); (case side5 => repeat (first|exact (Kd.C_below HR258_0.out HB.out)|(with_reducible refine Kd.C_alloc ?_ _)|(with_reducible refine Kd.C_drewN ?_ _)|(with_reducible refine Kd.C_drew ?_))); (case side6 => exact HC258_0.out); rintro e w33 ⟨rfl, hb⟩; refine ⟨_, rfl, ?_⟩; have n0_ := Q4 (blk_below (g := gb255) (o := .cells #[.slice (some ad258) l0_0.length c0_0, .slice (some ad257) l0_1.length c0_1] 27 (0, 0)) (by (with_reducible repeat (first|refine Qa ?_ _|refine Qb ?_|refine Q7 ?_ _)); exact BK255.out) hb); have n1_ := Q4 (below_step (by repeat (first|(with_reducible first|exact HB.out|apply Q8|apply Q5|apply Q9|refine Q6 ?_ GE255.out)|exact HB.out)) hb); clear BK255; clear HB; have BK255 := n0_; have HB := n1_; clear n0_ n1_;(try clear hb);(try clear hb2);(try clear hk);(try clear hi)))
               go_roundg kj20
               case measure => have := HJ1.out; have := HK2.out; have := HJ20.out; omega
               case rel => exact ⟨(wrap64 (x37_2 + 1)), (by first|rfl|(simp; done)|(simp [*]; done)), H', ⟨by have := HJ1.out; have := HK2.out; have := HJ20.out; omega⟩, ⟨by (with_reducible repeat (first|refine Qa ?_ _|refine Qb ?_|refine Q7 ?_ _)); exact BK255.out⟩, ⟨by repeat (first|(with_reducible first|exact HB.out|apply Q8|apply Q5|apply Q9|refine Q6 ?_ GE255.out)|exact HB.out)⟩⟩
              ·rw [if_neg c31] at H
               have c31b0 : (t260 == x37_2) = false := beq_eq_false_iff_ne.mpr c31
               have c31b1 : (t260 != x37_2) = true := bne_iff_ne.mpr c31
               obtain rfl := Option.some.inj H
               have hcz34_0 : wc.cell? ⟨gb255, 0, none⟩ = some (.slice (some ad258) l0_0.length c0_0) := (blk_cell BK255.out 0).trans rfl
               have hcz34_1 : wc.cell? ⟨gb255, 1, none⟩ = some (.slice (some ad257) l0_1.length c0_1) := (blk_cell BK255.out 1).trans rfl
               have hfz34_0 := blk_frozen BK255.out 0
               have hfz34_1 := blk_frozen BK255.out 1
               go_wp2_with (first|((with_reducible refine gate_callee (f := 13) rfl ?_); refine goesL_ (some 66) rfl rfl Try.func13 (by kernel_rfl) rfl #[.agg #[.slice (some ad258) l0_0.length c0_0, .slice (some ad257) l0_1.length c0_1], .slice A258_0 (rd_L3 l0_0 x37_2).length c258_0] rfl (by (try simp only [List.map_toArray, List.map_cons, List.map_nil]); first | done|rfl|(simp only [List.length_drop, List.length_take]; rfl)) ?_; (with_reducible refine (intern_Find.calls _ _ l0_0 _ _ l0_1 _ _ (rd_L3 l0_0 x37_2) t260 t261 _ ?side1 ?side2 ?side3 ?side4 ?side5 ?side6 A30.out).mono ?_); (case side1 => repeat (first|exact (Kd.C_below HR0_0.out HB.out)|(with_reducible refine Kd.C_alloc ?_ _)|(with_reducible refine Kd.C_drewN ?_ _)|(with_reducible refine Kd.C_drew ?_))); (case side2 => exact HC0_0.out); (case side3 => repeat (first|exact (Kd.C_below HR0_1.out HB.out)|(with_reducible refine Kd.C_alloc ?_ _)|(with_reducible refine Kd.C_drewN ?_ _)|(with_reducible refine Kd.C_drew ?_))); (case side4 => exact HC0_1.out); (case side5 => repeat (first|exact (Kd.C_below HR258_0.out HB.out)|(with_reducible refine Kd.C_alloc ?_ _)|(with_reducible refine Kd.C_drewN ?_ _)|(with_reducible refine Kd.C_drew ?_))); (case side6 => exact HC258_0.out); rintro e w35 ⟨rfl, hb⟩; refine ⟨_, rfl, ?_⟩; have n0_ := Q4 (blk_below (g := gb255) (o := .cells #[.slice (some ad258) l0_0.length c0_0, .slice (some ad257) l0_1.length c0_1] 27 (0, 0)) (by (with_reducible repeat (first|refine Qa ?_ _|refine Qb ?_|refine Q7 ?_ _)); exact BK255.out) hb); have n1_ := Q4 (below_step (by repeat (first|(with_reducible first|exact HB.out|apply Q8|apply Q5|apply Q9|refine Q6 ?_ GE255.out)|exact HB.out)) hb); clear BK255; clear HB; have BK255 := n0_; have HB := n1_; clear n0_ n1_;(try clear hb);(try clear hb2);(try clear hk);(try clear hi)))
               go_ret
               exact ⟨by first|rfl|(simp [errW_none, errW_some] <;> rfl)|(simp [*, errW_none, errW_some] <;> rfl), by repeat (first|(with_reducible first|exact HB.out|apply Q8|apply Q5|apply Q9|refine Q6 ?_ GE255.out)|exact HB.out)⟩
         ·rw [if_neg c20] at H
          exact absurd H (by simp)
        ·rw [if_neg c19] at H
         exact absurd H (by simp)
       ·rw [if_neg c18] at H
        exact absurd H (by simp)
      ·rw [if_neg c17] at H
       have c17b0 : decide (x37_2 < (l0_1.length : Int)) = false := decide_eq_false c17
       clear c17
       obtain rfl := Option.some.inj H
       go_wp2
       go_ret
       exact ⟨by first|rfl|(simp [errW_none, errW_some] <;> rfl)|(simp [*, errW_none, errW_some] <;> rfl), by repeat (first|(with_reducible first|exact HB.out|apply Q8|apply Q5|apply Q9|refine Q6 ?_ GE255.out)|exact HB.out)⟩

end Go.Proofs.Ytfoagjdcgipcaaa.X
-- pressed
