/- Walks of Go functions: each proves that the call answers what the Lean function of its name computes, wherever that is told; written by a program of this work out of the translation. -/
import Derived.Test.YtfoagjdcgipcaaaXx0
import Derived.Test.YtfoagjdcgipcaaaXx3
import Derived.Test.YtfoagjdcgipcaaaXx7
import Derived.Test.YtfoagjdcgipcaaaJa
import Derived.Test.YtfoagjdcgipcaaaJt
import Derived.Test.YtfoagjdcgipcaaaJu
import Derived.Test.YtfoagjdcgipcaaaJv
import Derived.Test.YtfoagjdcgipcaaaJw
import Derived.Test.YtfoagjdcgipcaaaJx
import Derived.Test.YtfoagjdcgipcaaaJq
import Derived.Test.YtfoagjdcgipcaaaJr
import Derived.Test.YtfoagjdcgipcaaaJy
import Derived.Test.YtfoagjdcgipcaaaKa
import Derived.Test.YtfoagjdcgipcaaaKb
import Derived.Test.YtfoagjdcgipcaaaKc
namespace Go.Proofs.Ytfoagjdcgipcaaa.X
open Go.RowKit Go.Proofs.YtfoagjdcgipcaaaW.PrintWords Go.Proofs.YtfoagjdcgipcaaaW.PrintLast

set_option linter.unusedVariables false
set_option linter.unusedSimpArgs false

/-! ### curtilageref05_Fit: function 12 -/
mutual
def curtilageref05_Fit.j0 : Nat → Int → Bool → List (List (S57)) → List Int → Option (Bool)
 | 0, _, _, _, _ => none
 | k + 1, x3, x32, x201000, x201001 => if x32 = true then (some false) else (curtilageref05_Fit.l0 k x3 0 x201000 x201001)
def curtilageref05_Fit.l0 : Nat → Int → Int → List (List (S57)) → List Int → Option (Bool)
 | 0, _, _, _, _ => none
 | k + 1, x3, x4, x201000, x201001 => if x4 < x3 then (if 0 ≤ x4 then (if x4 < (x201000.length : Int) then (if x4 < (x201001.length : Int) then (if (rd x201001 x4) < 0 then (curtilageref05_Fit.j2 k x3 x4 (rd_L3 x201000 x4) true x201000 x201001) else (if (rd x201001 x4) > 1073741824 then (curtilageref05_Fit.j2 k x3 x4 (rd_L3 x201000 x4) true x201000 x201001) else ((curtilageref02_Fit.f k (rd_L3 x201000 x4)).bind fun t205 => (if t205 = true then (if ((rd_L3 x201000 x4).length : Int) > 16 then (curtilageref05_Fit.j2 k x3 x4 (rd_L3 x201000 x4) true x201000 x201001) else (if (rd x201001 x4) = 0 then (curtilageref05_Fit.j2 k x3 x4 (rd_L3 x201000 x4) (decide (((rd_L3 x201000 x4).length : Int) > 0)) x201000 x201001) else (curtilageref05_Fit.j2 k x3 x4 (rd_L3 x201000 x4) false x201000 x201001))) else (curtilageref05_Fit.j2 k x3 x4 (rd_L3 x201000 x4) true x201000 x201001))))) else (none)) else (none)) else (none)) else (some true)
def curtilageref05_Fit.j2 : Nat → Int → Int → List (S57) → Bool → List (List (S57)) → List Int → Option (Bool)
 | 0, _, _, _, _, _, _ => none
 | k + 1, x3, x4, x5, x79, x201000, x201001 => if x79 = true then (some false) else ((curtilageref05_Find.f k x201000 x201001 x5).bind fun bt207 => (if 0 ≤ x4 then (if x4 < (x201001.length : Int) then (if (rd x201001 x4) = 0 then (curtilageref05_Fit.l0 k x3 (wrap64 (x4 + 1)) x201000 x201001) else (if bt207.2 = true then (if bt207.1 = x4 then (curtilageref05_Fit.l0 k x3 (wrap64 (x4 + 1)) x201000 x201001) else (some false)) else (some false))) else (none)) else (none)))
end
def curtilageref05_Fit.f (k : Nat) (l0_0 : List (List (S57))) (l0_1 : List Int) : Option (Bool) := if (l0_1.length : Int) = (l0_0.length : Int) then (if (l0_0.length : Int) > 64 then (curtilageref05_Fit.j0 k (l0_0.length : Int) true l0_0 l0_1) else (if (l0_0.length : Int) > 0 then (if 0 ≤ (wrap64 ((l0_0.length : Int) - 1)) then (if (wrap64 ((l0_0.length : Int) - 1)) < (l0_1.length : Int) then (curtilageref05_Fit.j0 k (l0_0.length : Int) ((rd l0_1 (wrap64 ((l0_0.length : Int) - 1))) == 0) l0_0 l0_1) else (none)) else (none)) else (curtilageref05_Fit.j0 k (l0_0.length : Int) false l0_0 l0_1))) else (curtilageref05_Fit.j0 k (l0_0.length : Int) true l0_0 l0_1)
set_option maxHeartbeats 8000000 in
set_option maxRecDepth 100000 in
theorem curtilageref05_Fit.calls (k : Nat) (A0_0 : Option Addr) (c0_0 : Nat) (l0_0 : List (List (S57))) (A0_1 : Option Addr) (c0_1 : Nat) (l0_1 : List Int) (r : Bool) (w : World) (hr0_0 : Kd.C (Kd.slice 57 k57) w A0_0 l0_0.length l0_0) (hc0_0 : l0_0.length ≤ c0_0) (hr0_1 : Kd.C (Kd.int .i64) w A0_1 l0_1.length l0_1) (hc0_1 : l0_1.length ≤ c0_1) (h : curtilageref05_Fit.f k l0_0 l0_1 = some r) :
  Calls Try.prog 12 #[.agg #[.slice A0_0 l0_0.length c0_0, .slice A0_1 l0_1.length c0_1]] w fun e w' => e = .returned (.bool r) ∧ Below w.heap.size w w' := by
 have hu27 := Try.underlying27
 have HR0_0 := Q4 hr0_0
 have HC0_0 := Q4 hc0_0
 clear hr0_0 hc0_0
 have HR0_1 := Q4 hr0_1
 have HC0_1 := Q4 hc0_1
 clear hr0_1 hc0_1
 have HB := Q4 (Below.refl w.heap.size w)
 have H : (if (l0_1.length : Int) = (l0_0.length : Int) then (if (l0_0.length : Int) > 64 then (curtilageref05_Fit.j0 k (l0_0.length : Int) true l0_0 l0_1) else (if (l0_0.length : Int) > 0 then (if 0 ≤ (wrap64 ((l0_0.length : Int) - 1)) then (if (wrap64 ((l0_0.length : Int) - 1)) < (l0_1.length : Int) then (curtilageref05_Fit.j0 k (l0_0.length : Int) ((rd l0_1 (wrap64 ((l0_0.length : Int) - 1))) == 0) l0_0 l0_1) else (none)) else (none)) else (curtilageref05_Fit.j0 k (l0_0.length : Int) false l0_0 l0_1))) else (curtilageref05_Fit.j0 k (l0_0.length : Int) true l0_0 l0_1)) = some r := h
 clear h
 have HC2 := Q4 H
 clear H
 go_enter Try.func12, Try.ntmps12
 go_upto_region 2 with (first|((with_reducible refine gate_dst (N := 1) rfl ?_); (try (refine gate_guard (by rfl) ?_; dsimp only)); refine box_event ?hg (N := 1) ?hd (cs := #[.slice A0_0 l0_0.length c0_0, .slice A0_1 l0_1.length c0_1]) (t := 27) ?hr ?_; (case hd => rfl); (case hg => rfl); (case hr => first|(go_simp; done)|(go_simp; rfl)); intro gb200 hg w3 hbox hb; have n0_ := Q4 (below_step (by repeat (first|(with_reducible first|exact HB.out|apply Q8|apply Q5|apply Q9)|exact HB.out)) hb); have n1_ := Q4 (hbox); have n2_ := Q4 ((by rw [hg]; exact (below_size (by repeat (first|(with_reducible first|exact HB.out|apply Q8|apply Q5|apply Q9)|exact HB.out))) : w.heap.size ≤ gb200)); have n3_ := Q4 ((by rw [hg]; exact (below_size (by repeat (first|(with_reducible first|exact HB.out|apply Q8|apply Q5|apply Q9)|exact HB.out))) : w.heap.size ≤ gb200)); clear HB; have HB := n0_; have BK200 := n1_; have GW200 := n2_; have GE200 := n3_; clear n0_ n1_ n2_ n3_; clear hb hbox hg; have hcz4_0 : w3.cell? ⟨gb200, 0, none⟩ = some (.slice A0_0 l0_0.length c0_0) := (blk_cell BK200.out 0).trans rfl; have hcz4_1 : w3.cell? ⟨gb200, 1, none⟩ = some (.slice A0_1 l0_1.length c0_1) := (blk_cell BK200.out 1).trans rfl; have hfz4_0 := blk_frozen BK200.out 0; have hfz4_1 := blk_frozen BK200.out 1))
 (try simp only [Act.put, Q1,Q2,Q3])
 go_cut [32] (fun v32 wc => ∃ (kq : Nat) (x32_1 : Bool), v32 = .bool x32_1 ∧ Aside0 (curtilageref05_Fit.j0 kq (l0_0.length : Int) x32_1 l0_0 l0_1 = some r) ∧ Aside0 (kq ≤ k) ∧ Aside0 (wc.heap[gb200]? = some (.cells #[(.slice A0_0 l0_0.length c0_0), (.slice A0_1 l0_1.length c0_1)] 27 (0, 0))) ∧ Aside0 (Below w.heap.size w wc))
 case first =>
  have H := HC2.out
  clear HC2
  by_cases c5 : (l0_1.length : Int) = (l0_0.length : Int)
  ·rw [if_pos c5] at H
   have c5b0 : ((l0_1.length : Int) == (l0_0.length : Int)) = true := beq_iff_eq.mpr c5
   have c5b1 : ((l0_1.length : Int) != (l0_0.length : Int)) = false := bne_eq_false_iff_eq.mpr c5
   have c5b2 : (l0_1.length == l0_0.length) = true := by first | simpa using c5|(simp at c5 ⊢; omega)
   clear c5
   (first | rw [c5b0]|(simp only [i64_w, i32_w]; rw [c5b0])|skip)
   by_cases c6 : (l0_0.length : Int) > 64
   ·rw [if_pos c6] at H
    have c6b0 : decide (64 < (l0_0.length : Int)) = true := decide_eq_true c6
    have c6b1 : decide (64 < l0_0.length) = true := decide_eq_true (by omega)
    clear c6
    have H' := Q4 H
    clear H
    have hcz7_0 : w3.cell? ⟨gb200, 0, none⟩ = some (.slice A0_0 l0_0.length c0_0) := (blk_cell BK200.out 0).trans rfl
    have hcz7_1 : w3.cell? ⟨gb200, 1, none⟩ = some (.slice A0_1 l0_1.length c0_1) := (blk_cell BK200.out 1).trans rfl
    have hfz7_0 := blk_frozen BK200.out 0
    have hfz7_1 := blk_frozen BK200.out 1
    go_wp2
    go_meet
    case rel => exact ⟨_, (true), (by first|rfl|(simp; done)|(simp [*]; done)), H', ⟨by first|omega|exact Nat.le_refl _⟩, ⟨by (with_reducible repeat (first|refine Qa ?_ _|refine Qb ?_|refine Q7 ?_ _)); exact BK200.out⟩, ⟨by repeat (first|(with_reducible first|exact HB.out|apply Q8|apply Q5|apply Q9|refine Q6 ?_ GE200.out)|exact HB.out)⟩⟩
   ·rw [if_neg c6] at H
    have c6b0 : decide (64 < (l0_0.length : Int)) = false := decide_eq_false c6
    have c6b1 : decide (64 < l0_0.length) = false := decide_eq_false (by omega)
    clear c6
    by_cases c8 : (l0_0.length : Int) > 0
    ·rw [if_pos c8] at H
     have c8b0 : decide (0 < (l0_0.length : Int)) = true := decide_eq_true c8
     have c8b1 : decide (0 < l0_0.length) = true := decide_eq_true (by omega)
     clear c8
     obtain ⟨ji9, hji9⟩ : ∃ j_ : Int, (wrap64 ((l0_0.length : Int) - 1)) = j_ := ⟨_, rfl⟩
     replace H : (if 0 ≤ (ji9) then (if (ji9) < (l0_1.length : Int) then (curtilageref05_Fit.j0 k (l0_0.length : Int) ((rd l0_1 (ji9)) == 0) l0_0 l0_1) else (none)) else (none)) = some r := by first|(rw [hji9] at H; exact H)|(simp only [hji9] at H ⊢; exact H)
     have hji9w : (IntKind.i64.wrap ((l0_0.length : Int) - 1)) = ji9 := (i64_w _).trans hji9
     by_cases c10 : 0 ≤ (ji9)
     ·rw [if_pos c10] at H
      have c10b0 : decide (0 ≤ (ji9)) = true := decide_eq_true c10
      clear c10
      by_cases c11 : (ji9) < (l0_1.length : Int)
      ·rw [if_pos c11] at H
       have c11b0 : decide ((ji9) < (l0_1.length : Int)) = true := decide_eq_true c11
       clear c11
       have H' := Q4 H
       clear H
       have hcz12_0 : w3.cell? ⟨gb200, 0, none⟩ = some (.slice A0_0 l0_0.length c0_0) := (blk_cell BK200.out 0).trans rfl
       have hcz12_1 : w3.cell? ⟨gb200, 1, none⟩ = some (.slice A0_1 l0_1.length c0_1) := (blk_cell BK200.out 1).trans rfl
       have hfz12_0 := blk_frozen BK200.out 0
       have hfz12_1 := blk_frozen BK200.out 1
       have p201 : 0 ≤ ((ji9) : Int) := Qc (by first|(with_reducible assumption)|assumption)
       have q201 : (ji9) < (l0_1.length : Int) := Qc (by first|(with_reducible assumption)|assumption)
       obtain ⟨ad201, e201, hx201_0⟩ := Kd.at_int HR0_1.out (ji9) p201 q201
       cases e201
       replace hx201_0 := (HB.out.cell (World.block_lt_of_cell? w _ hx201_0)).trans hx201_0
       replace p201 := eq_true p201
       replace q201 := eq_true q201
       go_wp2
       go_meet
       case rel => exact ⟨_, (((rd l0_1 (ji9)) == 0)), (by first|rfl|(simp; done)|(simp only [← hji9] <;> (first|rfl | simp))|(simp [*]; done)), H', ⟨by first|omega|exact Nat.le_refl _⟩, ⟨by (with_reducible repeat (first|refine Qa ?_ _|refine Qb ?_|refine Q7 ?_ _)); exact BK200.out⟩, ⟨by repeat (first|(with_reducible first|exact HB.out|apply Q8|apply Q5|apply Q9|refine Q6 ?_ GE200.out)|exact HB.out)⟩⟩
      ·rw [if_neg c11] at H
       exact absurd H (by simp)
     ·rw [if_neg c10] at H
      exact absurd H (by simp)
    ·rw [if_neg c8] at H
     have c8b0 : decide (0 < (l0_0.length : Int)) = false := decide_eq_false c8
     have c8b1 : decide (0 < l0_0.length) = false := decide_eq_false (by omega)
     clear c8
     have H' := Q4 H
     clear H
     have hcz13_0 : w3.cell? ⟨gb200, 0, none⟩ = some (.slice A0_0 l0_0.length c0_0) := (blk_cell BK200.out 0).trans rfl
     have hcz13_1 : w3.cell? ⟨gb200, 1, none⟩ = some (.slice A0_1 l0_1.length c0_1) := (blk_cell BK200.out 1).trans rfl
     have hfz13_0 := blk_frozen BK200.out 0
     have hfz13_1 := blk_frozen BK200.out 1
     go_wp2
     go_meet
     case rel => exact ⟨_, (false), (by first|rfl|(simp; done)|(simp [*]; done)), H', ⟨by first|omega|exact Nat.le_refl _⟩, ⟨by (with_reducible repeat (first|refine Qa ?_ _|refine Qb ?_|refine Q7 ?_ _)); exact BK200.out⟩, ⟨by repeat (first|(with_reducible first|exact HB.out|apply Q8|apply Q5|apply Q9|refine Q6 ?_ GE200.out)|exact HB.out)⟩⟩
  ·rw [if_neg c5] at H
   have c5b0 : ((l0_1.length : Int) == (l0_0.length : Int)) = false := beq_eq_false_iff_ne.mpr c5
   have c5b1 : ((l0_1.length : Int) != (l0_0.length : Int)) = true := bne_iff_ne.mpr c5
   have c5b2 : (l0_1.length == l0_0.length) = false := by first | simpa using c5|(simp at c5 ⊢; omega)
   (first | rw [c5b0]|(simp only [i64_w, i32_w]; rw [c5b0])|skip)
   have H' := Q4 H
   clear H
   have hcz14_0 : w3.cell? ⟨gb200, 0, none⟩ = some (.slice A0_0 l0_0.length c0_0) := (blk_cell BK200.out 0).trans rfl
   have hcz14_1 : w3.cell? ⟨gb200, 1, none⟩ = some (.slice A0_1 l0_1.length c0_1) := (blk_cell BK200.out 1).trans rfl
   have hfz14_0 := blk_frozen BK200.out 0
   have hfz14_1 := blk_frozen BK200.out 1
   go_wp2
   go_meet
   case rel => exact ⟨_, (true), (by first|rfl|(simp; done)|(simp [*]; done)), H', ⟨by first|omega|exact Nat.le_refl _⟩, ⟨by (with_reducible repeat (first|refine Qa ?_ _|refine Qb ?_|refine Q7 ?_ _)); exact BK200.out⟩, ⟨by repeat (first|(with_reducible first|exact HB.out|apply Q8|apply Q5|apply Q9|refine Q6 ?_ GE200.out)|exact HB.out)⟩⟩
 case rest =>
  clear HC2
  (try clear c1);(try clear p2);(try clear q2);(try clear hx2);(try clear c5);(try clear c5b0);(try clear c5b1);(try clear c5b2);(try clear c6);(try clear c6b0);(try clear c6b1);(try clear p6);(try clear c8);(try clear c8b0);(try clear c8b1);(try clear c10);(try clear c10b0);(try clear c11);(try clear c11b0);(try clear c12);(try clear hcz12_0);(try clear hcz12_1);(try clear hcz13_0);(try clear hcz13_1);(try clear hcz14_0);(try clear hcz14_1);(try clear hcz4_0);(try clear hcz4_1);(try clear hcz7_0);(try clear hcz7_1);(try clear hfz12_0);(try clear hfz12_1);(try clear hfz13_0);(try clear hfz13_1);(try clear hfz14_0);(try clear hfz14_1);(try clear hfz4_0);(try clear hfz4_1);(try clear hfz7_0);(try clear hfz7_1);(try clear hx201_0);(try clear p201);(try clear q201)
  obtain ⟨kq, x32_1, rfl, HA, HJ1, BK200, HB⟩ := hcut
  cases kq with
  | zero => exact absurd HA.out (by simp [curtilageref05_Fit.j0])
  | succ kj1 =>
   have H := HA.out
   clear HA
   simp only [curtilageref05_Fit.j0] at H
   by_cases c15 : x32_1 = true
   ·subst c15
    have H1 : (some false) = some r := by rw [if_pos rfl] at H; exact H
    clear H
    have H := H1
    clear H1
    obtain rfl := Option.some.inj H
    go_wp2
    go_ret
    exact ⟨by first|rfl|(simp [errW_none, errW_some] <;> rfl)|(simp [*, errW_none, errW_some] <;> rfl), by repeat (first|(with_reducible first|exact HB.out|apply Q8|apply Q5|apply Q9|refine Q6 ?_ GE200.out)|exact HB.out)⟩
   ·replace c15 := Bool.eq_false_iff.mpr c15
    subst c15
    have H1 : (curtilageref05_Fit.l0 kj1 (l0_0.length : Int) 0 l0_0 l0_1) = some r := by rw [if_neg (show ¬ (false = true) by decide)] at H; exact H
    clear H
    have H := H1
    clear H1
    have H' := Q4 H
    clear H
    go_wp2
    go_loopg [4] kj1 (fun kq v4 w' => ∃ (x4_2 : Int), v4 = .int .i64 x4_2 ∧ Aside0 (curtilageref05_Fit.l0 kq (l0_0.length : Int) x4_2 l0_0 l0_1 = some r) ∧ Aside0 (kq ≤ kj1) ∧ Aside0 (w'.heap[gb200]? = some (.cells #[(.slice A0_0 l0_0.length c0_0), (.slice A0_1 l0_1.length c0_1)] 27 (0, 0))) ∧ Aside0 (Below w.heap.size w w'))
    case atStart => exact ⟨(0), (by first|rfl|(simp; done)|(simp [*]; done)), H', ⟨Nat.le_refl _⟩, ⟨by (with_reducible repeat (first|refine Qa ?_ _|refine Qb ?_|refine Q7 ?_ _)); exact BK200.out⟩, ⟨by repeat (first|(with_reducible first|exact HB.out|apply Q8|apply Q5|apply Q9|refine Q6 ?_ GE200.out)|exact HB.out)⟩⟩
    case round =>
     clear H'
     (try clear c1);(try clear p2);(try clear q2);(try clear hx2);(try clear c5);(try clear c5b0);(try clear c5b1);(try clear c5b2);(try clear c6);(try clear c6b0);(try clear c6b1);(try clear p6);(try clear c8);(try clear c8b0);(try clear c8b1);(try clear c10);(try clear c10b0);(try clear c11);(try clear c11b0);(try clear c12);(try clear c15);(try clear hcz12_0);(try clear hcz12_1);(try clear hcz13_0);(try clear hcz13_1);(try clear hcz14_0);(try clear hcz14_1);(try clear hcz4_0);(try clear hcz4_1);(try clear hcz7_0);(try clear hcz7_1);(try clear hfz12_0);(try clear hfz12_1);(try clear hfz13_0);(try clear hfz13_1);(try clear hfz14_0);(try clear hfz14_1);(try clear hfz4_0);(try clear hfz4_1);(try clear hfz7_0);(try clear hfz7_1);(try clear hx201_0);(try clear p2);(try clear p201);(try clear p6);(try clear q2);(try clear q201)
     obtain ⟨x4_2, rfl, HA, HK2, BK200, HB⟩ := hrel
     cases gk with
     | zero => exact absurd HA.out (by simp [curtilageref05_Fit.l0])
     | succ k2 =>
      have H := HA.out
      clear HA
      simp only [curtilageref05_Fit.l0] at H
      by_cases c16 : x4_2 < (l0_0.length : Int)
      ·rw [if_pos c16] at H
       have c16b0 : decide (x4_2 < (l0_0.length : Int)) = true := decide_eq_true c16
       clear c16
       by_cases c17 : 0 ≤ x4_2
       ·rw [if_pos c17] at H
        have c17b0 : decide (0 ≤ x4_2) = true := decide_eq_true c17
        clear c17
        by_cases c18 : x4_2 < (l0_0.length : Int)
        ·rw [if_pos c18] at H
         have c18b0 : decide (x4_2 < (l0_0.length : Int)) = true := decide_eq_true c18
         clear c18
         have HC19 := Q4 H
         clear H
         have hcz20_0 : wr.cell? ⟨gb200, 0, none⟩ = some (.slice A0_0 l0_0.length c0_0) := (blk_cell BK200.out 0).trans rfl
         have hcz20_1 : wr.cell? ⟨gb200, 1, none⟩ = some (.slice A0_1 l0_1.length c0_1) := (blk_cell BK200.out 1).trans rfl
         have hfz20_0 := blk_frozen BK200.out 0
         have hfz20_1 := blk_frozen BK200.out 1
         have p202 : 0 ≤ (x4_2 : Int) := Qc (by first|(with_reducible assumption)|assumption)
         have q202 : x4_2 < (l0_0.length : Int) := Qc (by first|(with_reducible assumption)|assumption)
         obtain ⟨ad202, A202_0, c202_0, e202, hx202_0, hl202_0, hi202_0⟩ := at_L3 HR0_0.out x4_2 p202 q202
         cases e202
         replace hx202_0 := (HB.out.cell (World.block_lt_of_cell? w _ hx202_0)).trans hx202_0
         have HR202_0 := Q4 hi202_0
         have HC202_0 := Q4 hl202_0
         clear hi202_0 hl202_0
         replace p202 := eq_true p202
         replace q202 := eq_true q202
         go_upto_region 8 with (fail)
         go_cut [79] (fun v79 wc => ∃ (kq : Nat) (x79_18 : Bool), v79 = .bool x79_18 ∧ Aside0 (curtilageref05_Fit.j2 kq (l0_0.length : Int) x4_2 (rd_L3 l0_0 x4_2) x79_18 l0_0 l0_1 = some r) ∧ Aside0 (kq ≤ k2) ∧ Aside0 (wc.heap[gb200]? = some (.cells #[(.slice (some ad202) l0_0.length c0_0), (.slice A0_1 l0_1.length c0_1)] 27 (0, 0))) ∧ Aside0 (Below w.heap.size w wc))
         case first =>
          have H := HC19.out
          clear HC19
          by_cases c21 : x4_2 < (l0_1.length : Int)
          ·rw [if_pos c21] at H
           have c21b0 : decide (x4_2 < (l0_1.length : Int)) = true := decide_eq_true c21
           clear c21
           (first | rw [c21b0]|(simp only [i64_w, i32_w]; rw [c21b0])|skip)
           by_cases c22 : (rd l0_1 x4_2) < 0
           ·rw [if_pos c22] at H
            have c22b0 : decide ((rd l0_1 x4_2) < 0) = true := decide_eq_true c22
            clear c22
            have H' := Q4 H
            clear H
            have hcz23_0 : wr.cell? ⟨gb200, 0, none⟩ = some (.slice (some ad202) l0_0.length c0_0) := (blk_cell BK200.out 0).trans rfl
            have hcz23_1 : wr.cell? ⟨gb200, 1, none⟩ = some (.slice A0_1 l0_1.length c0_1) := (blk_cell BK200.out 1).trans rfl
            have hfz23_0 := blk_frozen BK200.out 0
            have hfz23_1 := blk_frozen BK200.out 1
            have p203 : 0 ≤ (x4_2 : Int) := Qc (by first|(with_reducible assumption)|assumption)
            have q203 : x4_2 < (l0_1.length : Int) := Qc (by first|(with_reducible assumption)|assumption)
            obtain ⟨ad203, e203, hx203_0⟩ := Kd.at_int HR0_1.out x4_2 p203 q203
            cases e203
            replace hx203_0 := (HB.out.cell (World.block_lt_of_cell? w _ hx203_0)).trans hx203_0
            replace p203 := eq_true p203
            replace q203 := eq_true q203
            go_wp2
            go_meet
            case rel => exact ⟨_, (true), (by first|rfl|(simp; done)|(simp [*]; done)), H', ⟨by have := HJ1.out; have := HK2.out; first|omega|exact Nat.le_refl _⟩, ⟨by (with_reducible repeat (first|refine Qa ?_ _|refine Qb ?_|refine Q7 ?_ _)); exact BK200.out⟩, ⟨by repeat (first|(with_reducible first|exact HB.out|apply Q8|apply Q5|apply Q9|refine Q6 ?_ GE200.out)|exact HB.out)⟩⟩
           ·rw [if_neg c22] at H
            have c22b0 : decide ((rd l0_1 x4_2) < 0) = false := decide_eq_false c22
            clear c22
            by_cases c24 : (rd l0_1 x4_2) > 1073741824
            ·rw [if_pos c24] at H
             have c24b0 : decide (1073741824 < (rd l0_1 x4_2)) = true := decide_eq_true c24
             clear c24
             have H' := Q4 H
             clear H
             have hcz25_0 : wr.cell? ⟨gb200, 0, none⟩ = some (.slice (some ad202) l0_0.length c0_0) := (blk_cell BK200.out 0).trans rfl
             have hcz25_1 : wr.cell? ⟨gb200, 1, none⟩ = some (.slice A0_1 l0_1.length c0_1) := (blk_cell BK200.out 1).trans rfl
             have hfz25_0 := blk_frozen BK200.out 0
             have hfz25_1 := blk_frozen BK200.out 1
             have p203 : 0 ≤ (x4_2 : Int) := Qc (by first|(with_reducible assumption)|assumption)
             have q203 : x4_2 < (l0_1.length : Int) := Qc (by first|(with_reducible assumption)|assumption)
             obtain ⟨ad203, e203, hx203_0⟩ := Kd.at_int HR0_1.out x4_2 p203 q203
             cases e203
             replace hx203_0 := (HB.out.cell (World.block_lt_of_cell? w _ hx203_0)).trans hx203_0
             replace p203 := eq_true p203
             replace q203 := eq_true q203
             have p204 : 0 ≤ (x4_2 : Int) := Qc (by first|(with_reducible assumption)|assumption)
             have q204 : x4_2 < (l0_1.length : Int) := Qc (by first|(with_reducible assumption)|assumption)
             obtain ⟨ad204, e204, hx204_0⟩ := Kd.at_int HR0_1.out x4_2 p204 q204
             obtain rfl : ad203 = ad204 := (by injection e204)
             replace hx204_0 := (HB.out.cell (World.block_lt_of_cell? w _ hx204_0)).trans hx204_0
             replace p204 := eq_true p204
             replace q204 := eq_true q204
             go_wp2
             go_meet
             case rel => exact ⟨_, (true), (by first|rfl|(simp; done)|(simp [*]; done)), H', ⟨by have := HJ1.out; have := HK2.out; first|omega|exact Nat.le_refl _⟩, ⟨by (with_reducible repeat (first|refine Qa ?_ _|refine Qb ?_|refine Q7 ?_ _)); exact BK200.out⟩, ⟨by repeat (first|(with_reducible first|exact HB.out|apply Q8|apply Q5|apply Q9|refine Q6 ?_ GE200.out)|exact HB.out)⟩⟩
            ·rw [if_neg c24] at H
             have c24b0 : decide (1073741824 < (rd l0_1 x4_2)) = false := decide_eq_false c24
             clear c24
             replace H := Option.bind_eq_some_iff.mp H
             obtain ⟨t205, A260, H⟩ := H
             replace H : (if t205 = true then (if ((rd_L3 l0_0 x4_2).length : Int) > 16 then (curtilageref05_Fit.j2 k2 (l0_0.length : Int) x4_2 (rd_L3 l0_0 x4_2) true l0_0 l0_1) else (if (rd l0_1 x4_2) = 0 then (curtilageref05_Fit.j2 k2 (l0_0.length : Int) x4_2 (rd_L3 l0_0 x4_2) (decide (((rd_L3 l0_0 x4_2).length : Int) > 0)) l0_0 l0_1) else (curtilageref05_Fit.j2 k2 (l0_0.length : Int) x4_2 (rd_L3 l0_0 x4_2) false l0_0 l0_1))) else (curtilageref05_Fit.j2 k2 (l0_0.length : Int) x4_2 (rd_L3 l0_0 x4_2) true l0_0 l0_1)) = some r := H
             have A26 := Q4 A260
             clear A260
             by_cases c27 : t205 = true
             ·subst c27
              have H1 : (if ((rd_L3 l0_0 x4_2).length : Int) > 16 then (curtilageref05_Fit.j2 k2 (l0_0.length : Int) x4_2 (rd_L3 l0_0 x4_2) true l0_0 l0_1) else (if (rd l0_1 x4_2) = 0 then (curtilageref05_Fit.j2 k2 (l0_0.length : Int) x4_2 (rd_L3 l0_0 x4_2) (decide (((rd_L3 l0_0 x4_2).length : Int) > 0)) l0_0 l0_1) else (curtilageref05_Fit.j2 k2 (l0_0.length : Int) x4_2 (rd_L3 l0_0 x4_2) false l0_0 l0_1))) = some r := by rw [if_pos rfl] at H; exact H
              clear H
              have H := H1
              clear H1
              by_cases c28 : ((rd_L3 l0_0 x4_2).length : Int) > 16
              ·rw [if_pos c28] at H
               have c28b0 : decide (16 < ((rd_L3 l0_0 x4_2).length : Int)) = true := decide_eq_true c28
               have c28b1 : decide (16 < (rd_L3 l0_0 x4_2).length) = true := decide_eq_true (by omega)
               clear c28
               have H' := Q4 H
               clear H
               have hcz29_0 : wr.cell? ⟨gb200, 0, none⟩ = some (.slice (some ad202) l0_0.length c0_0) := (blk_cell BK200.out 0).trans rfl
               have hcz29_1 : wr.cell? ⟨gb200, 1, none⟩ = some (.slice A0_1 l0_1.length c0_1) := (blk_cell BK200.out 1).trans rfl
               have hfz29_0 := blk_frozen BK200.out 0
               have hfz29_1 := blk_frozen BK200.out 1
               have p203 : 0 ≤ (x4_2 : Int) := Qc (by first|(with_reducible assumption)|assumption)
               have q203 : x4_2 < (l0_1.length : Int) := Qc (by first|(with_reducible assumption)|assumption)
               obtain ⟨ad203, e203, hx203_0⟩ := Kd.at_int HR0_1.out x4_2 p203 q203
               cases e203
               replace hx203_0 := (HB.out.cell (World.block_lt_of_cell? w _ hx203_0)).trans hx203_0
               replace p203 := eq_true p203
               replace q203 := eq_true q203
               have p204 : 0 ≤ (x4_2 : Int) := Qc (by first|(with_reducible assumption)|assumption)
               have q204 : x4_2 < (l0_1.length : Int) := Qc (by first|(with_reducible assumption)|assumption)
               obtain ⟨ad204, e204, hx204_0⟩ := Kd.at_int HR0_1.out x4_2 p204 q204
               obtain rfl : ad203 = ad204 := (by injection e204)
               replace hx204_0 := (HB.out.cell (World.block_lt_of_cell? w _ hx204_0)).trans hx204_0
               replace p204 := eq_true p204
               replace q204 := eq_true q204
               go_wp2_with (first|(go_at_call 7; (with_reducible refine (curtilageref02_Fit.calls k2 _ _ (rd_L3 l0_0 x4_2) true _ ?side1 ?side2 A26.out).mono ?_); (case side1 => repeat (first|exact (Kd.C_below HR202_0.out HB.out)|(with_reducible refine Kd.C_alloc ?_ _)|(with_reducible refine Kd.C_drewN ?_ _)|(with_reducible refine Kd.C_drew ?_))); (case side2 => exact HC202_0.out); rintro e w30 ⟨rfl, hb⟩; have n0_ := Q4 (blk_below (g := gb200) (o := .cells #[.slice (some ad202) l0_0.length c0_0, .slice (some ad203) l0_1.length c0_1] 27 (0, 0)) (by (with_reducible repeat (first|refine Qa ?_ _|refine Qb ?_|refine Q7 ?_ _)); exact BK200.out) hb); have n1_ := Q4 (below_step (by repeat (first|(with_reducible first|exact HB.out|apply Q8|apply Q5|apply Q9|refine Q6 ?_ GE200.out)|exact HB.out)) hb); clear BK200; clear HB; have BK200 := n0_; have HB := n1_; clear n0_ n1_;(try clear hb);(try clear hb2);(try clear hk);(try clear hi)))
               go_meet
               case rel => exact ⟨_, (true), (by first|rfl|(simp; done)|(simp [*]; done)), H', ⟨by have := HJ1.out; have := HK2.out; first|omega|exact Nat.le_refl _⟩, ⟨by (with_reducible repeat (first|refine Qa ?_ _|refine Qb ?_|refine Q7 ?_ _)); exact BK200.out⟩, ⟨by repeat (first|(with_reducible first|exact HB.out|apply Q8|apply Q5|apply Q9|refine Q6 ?_ GE200.out)|exact HB.out)⟩⟩
              ·rw [if_neg c28] at H
               have c28b0 : decide (16 < ((rd_L3 l0_0 x4_2).length : Int)) = false := decide_eq_false c28
               have c28b1 : decide (16 < (rd_L3 l0_0 x4_2).length) = false := decide_eq_false (by omega)
               clear c28
               by_cases c31 : (rd l0_1 x4_2) = 0
               ·rw [if_pos c31] at H
                have c31b0 : ((rd l0_1 x4_2) == 0) = true := beq_iff_eq.mpr c31
                have c31b1 : ((rd l0_1 x4_2) != 0) = false := bne_eq_false_iff_eq.mpr c31
                clear c31
                have H' := Q4 H
                clear H
                have hcz32_0 : wr.cell? ⟨gb200, 0, none⟩ = some (.slice (some ad202) l0_0.length c0_0) := (blk_cell BK200.out 0).trans rfl
                have hcz32_1 : wr.cell? ⟨gb200, 1, none⟩ = some (.slice A0_1 l0_1.length c0_1) := (blk_cell BK200.out 1).trans rfl
                have hfz32_0 := blk_frozen BK200.out 0
                have hfz32_1 := blk_frozen BK200.out 1
                have p203 : 0 ≤ (x4_2 : Int) := Qc (by first|(with_reducible assumption)|assumption)
                have q203 : x4_2 < (l0_1.length : Int) := Qc (by first|(with_reducible assumption)|assumption)
                obtain ⟨ad203, e203, hx203_0⟩ := Kd.at_int HR0_1.out x4_2 p203 q203
                cases e203
                replace hx203_0 := (HB.out.cell (World.block_lt_of_cell? w _ hx203_0)).trans hx203_0
                replace p203 := eq_true p203
                replace q203 := eq_true q203
                have p204 : 0 ≤ (x4_2 : Int) := Qc (by first|(with_reducible assumption)|assumption)
                have q204 : x4_2 < (l0_1.length : Int) := Qc (by first|(with_reducible assumption)|assumption)
                obtain ⟨ad204, e204, hx204_0⟩ := Kd.at_int HR0_1.out x4_2 p204 q204
                obtain rfl : ad203 = ad204 := (by injection e204)
                replace hx204_0 := (HB.out.cell (World.block_lt_of_cell? w _ hx204_0)).trans hx204_0
                replace p204 := eq_true p204
                replace q204 := eq_true q204
                go_wp2_with (first|(go_at_call 7; (with_reducible refine (curtilageref02_Fit.calls k2 _ _ (rd_L3 l0_0 x4_2) true _ ?side1 ?side2 A26.out).mono ?_); (case side1 => repeat (first|exact (Kd.C_below HR202_0.out HB.out)|(with_reducible refine Kd.C_alloc ?_ _)|(with_reducible refine Kd.C_drewN ?_ _)|(with_reducible refine Kd.C_drew ?_))); (case side2 => exact HC202_0.out); rintro e w33 ⟨rfl, hb⟩; have n0_ := Q4 (blk_below (g := gb200) (o := .cells #[.slice (some ad202) l0_0.length c0_0, .slice (some ad203) l0_1.length c0_1] 27 (0, 0)) (by (with_reducible repeat (first|refine Qa ?_ _|refine Qb ?_|refine Q7 ?_ _)); exact BK200.out) hb); have n1_ := Q4 (below_step (by repeat (first|(with_reducible first|exact HB.out|apply Q8|apply Q5|apply Q9|refine Q6 ?_ GE200.out)|exact HB.out)) hb); clear BK200; clear HB; have BK200 := n0_; have HB := n1_; clear n0_ n1_;(try clear hb);(try clear hb2);(try clear hk);(try clear hi); have hcz34_0 : w33.cell? ⟨gb200, 0, none⟩ = some (.slice (some ad202) l0_0.length c0_0) := (blk_cell BK200.out 0).trans rfl; have hcz34_1 : w33.cell? ⟨gb200, 1, none⟩ = some (.slice (some ad203) l0_1.length c0_1) := (blk_cell BK200.out 1).trans rfl; have hfz34_0 := blk_frozen BK200.out 0; have hfz34_1 := blk_frozen BK200.out 1; have p206 : 0 ≤ (x4_2 : Int) := Qc (by first|(with_reducible assumption)|assumption); have q206 : x4_2 < (l0_1.length : Int) := Qc (by first|(with_reducible assumption)|assumption); obtain ⟨ad206, e206, hx206_0⟩ := Kd.at_int HR0_1.out x4_2 p206 q206; obtain rfl : ad203 = ad206 := (by injection e206); replace hx206_0 := (HB.out.cell (World.block_lt_of_cell? w _ hx206_0)).trans hx206_0; replace p206 := eq_true p206; replace q206 := eq_true q206))
                go_meet
                case rel => exact ⟨_, (decide (((rd_L3 l0_0 x4_2).length : Int) > 0)), (by first|rfl|(simp; done)|(simp [*]; done)), H', ⟨by have := HJ1.out; have := HK2.out; first|omega|exact Nat.le_refl _⟩, ⟨by (with_reducible repeat (first|refine Qa ?_ _|refine Qb ?_|refine Q7 ?_ _)); exact BK200.out⟩, ⟨by repeat (first|(with_reducible first|exact HB.out|apply Q8|apply Q5|apply Q9|refine Q6 ?_ GE200.out)|exact HB.out)⟩⟩
               ·rw [if_neg c31] at H
                have c31b0 : ((rd l0_1 x4_2) == 0) = false := beq_eq_false_iff_ne.mpr c31
                have c31b1 : ((rd l0_1 x4_2) != 0) = true := bne_iff_ne.mpr c31
                have H' := Q4 H
                clear H
                have hcz35_0 : wr.cell? ⟨gb200, 0, none⟩ = some (.slice (some ad202) l0_0.length c0_0) := (blk_cell BK200.out 0).trans rfl
                have hcz35_1 : wr.cell? ⟨gb200, 1, none⟩ = some (.slice A0_1 l0_1.length c0_1) := (blk_cell BK200.out 1).trans rfl
                have hfz35_0 := blk_frozen BK200.out 0
                have hfz35_1 := blk_frozen BK200.out 1
                have p203 : 0 ≤ (x4_2 : Int) := Qc (by first|(with_reducible assumption)|assumption)
                have q203 : x4_2 < (l0_1.length : Int) := Qc (by first|(with_reducible assumption)|assumption)
                obtain ⟨ad203, e203, hx203_0⟩ := Kd.at_int HR0_1.out x4_2 p203 q203
                cases e203
                replace hx203_0 := (HB.out.cell (World.block_lt_of_cell? w _ hx203_0)).trans hx203_0
                replace p203 := eq_true p203
                replace q203 := eq_true q203
                have p204 : 0 ≤ (x4_2 : Int) := Qc (by first|(with_reducible assumption)|assumption)
                have q204 : x4_2 < (l0_1.length : Int) := Qc (by first|(with_reducible assumption)|assumption)
                obtain ⟨ad204, e204, hx204_0⟩ := Kd.at_int HR0_1.out x4_2 p204 q204
                obtain rfl : ad203 = ad204 := (by injection e204)
                replace hx204_0 := (HB.out.cell (World.block_lt_of_cell? w _ hx204_0)).trans hx204_0
                replace p204 := eq_true p204
                replace q204 := eq_true q204
                go_wp2_with (first|(go_at_call 7; (with_reducible refine (curtilageref02_Fit.calls k2 _ _ (rd_L3 l0_0 x4_2) true _ ?side1 ?side2 A26.out).mono ?_); (case side1 => repeat (first|exact (Kd.C_below HR202_0.out HB.out)|(with_reducible refine Kd.C_alloc ?_ _)|(with_reducible refine Kd.C_drewN ?_ _)|(with_reducible refine Kd.C_drew ?_))); (case side2 => exact HC202_0.out); rintro e w36 ⟨rfl, hb⟩; have n0_ := Q4 (blk_below (g := gb200) (o := .cells #[.slice (some ad202) l0_0.length c0_0, .slice (some ad203) l0_1.length c0_1] 27 (0, 0)) (by (with_reducible repeat (first|refine Qa ?_ _|refine Qb ?_|refine Q7 ?_ _)); exact BK200.out) hb); have n1_ := Q4 (below_step (by repeat (first|(with_reducible first|exact HB.out|apply Q8|apply Q5|apply Q9|refine Q6 ?_ GE200.out)|exact HB.out)) hb); clear BK200; clear HB; have BK200 := n0_; have HB := n1_; clear n0_ n1_;(try clear hb);(try clear hb2);(try clear hk);(try clear hi); have hcz37_0 : w36.cell? ⟨gb200, 0, none⟩ = some (.slice (some ad202) l0_0.length c0_0) := (blk_cell BK200.out 0).trans rfl; have hcz37_1 : w36.cell? ⟨gb200, 1, none⟩ = some (.slice (some ad203) l0_1.length c0_1) := (blk_cell BK200.out 1).trans rfl; have hfz37_0 := blk_frozen BK200.out 0; have hfz37_1 := blk_frozen BK200.out 1; have p206 : 0 ≤ (x4_2 : Int) := Qc (by first|(with_reducible assumption)|assumption); have q206 : x4_2 < (l0_1.length : Int) := Qc (by first|(with_reducible assumption)|assumption); obtain ⟨ad206, e206, hx206_0⟩ := Kd.at_int HR0_1.out x4_2 p206 q206; obtain rfl : ad203 = ad206 := (by injection e206); replace hx206_0 := (HB.out.cell (World.block_lt_of_cell? w _ hx206_0)).trans hx206_0; replace p206 := eq_true p206; replace q206 := eq_true q206))
                go_meet
                case rel => exact ⟨_, (false), (by first|rfl|(simp; done)|(simp [*]; done)), H', ⟨by have := HJ1.out; have := HK2.out; first|omega|exact Nat.le_refl _⟩, ⟨by (with_reducible repeat (first|refine Qa ?_ _|refine Qb ?_|refine Q7 ?_ _)); exact BK200.out⟩, ⟨by repeat (first|(with_reducible first|exact HB.out|apply Q8|apply Q5|apply Q9|refine Q6 ?_ GE200.out)|exact HB.out)⟩⟩
             ·replace c27 := Bool.eq_false_iff.mpr c27
              subst c27
              have H1 : (curtilageref05_Fit.j2 k2 (l0_0.length : Int) x4_2 (rd_L3 l0_0 x4_2) true l0_0 l0_1) = some r := by rw [if_neg (show ¬ (false = true) by decide)] at H; exact H
              clear H
              have H := H1
              clear H1
              have H' := Q4 H
              clear H
              have hcz38_0 : wr.cell? ⟨gb200, 0, none⟩ = some (.slice (some ad202) l0_0.length c0_0) := (blk_cell BK200.out 0).trans rfl
              have hcz38_1 : wr.cell? ⟨gb200, 1, none⟩ = some (.slice A0_1 l0_1.length c0_1) := (blk_cell BK200.out 1).trans rfl
              have hfz38_0 := blk_frozen BK200.out 0
              have hfz38_1 := blk_frozen BK200.out 1
              have p203 : 0 ≤ (x4_2 : Int) := Qc (by first|(with_reducible assumption)|assumption)
              have q203 : x4_2 < (l0_1.length : Int) := Qc (by first|(with_reducible assumption)|assumption)
              obtain ⟨ad203, e203, hx203_0⟩ := Kd.at_int HR0_1.out x4_2 p203 q203
              cases e203
              replace hx203_0 := (HB.out.cell (World.block_lt_of_cell? w _ hx203_0)).trans hx203_0
              replace p203 := eq_true p203
              replace q203 := eq_true q203
              have p204 : 0 ≤ (x4_2 : Int) := Qc (by first|(with_reducible assumption)|assumption)
              have q204 : x4_2 < (l0_1.length : Int) := Qc (by first|(with_reducible assumption)|assumption)
              obtain ⟨ad204, e204, hx204_0⟩ := Kd.at_int HR0_1.out x4_2 p204 q204
              obtain rfl : ad203 = ad204 := (by injection e204)
              replace hx204_0 := (HB.out.cell (World.block_lt_of_cell? w _ hx204_0)).trans hx204_0
              replace p204 := eq_true p204
              replace q204 := eq_true q204
              go_wp2_with (first|(go_at_call 7; (with_reducible refine (curtilageref02_Fit.calls k2 _ _ (rd_L3 l0_0 x4_2) false _ ?side1 ?side2 A26.out).mono ?_); (case side1 => repeat (first|exact (Kd.C_below HR202_0.out HB.out)|(with_reducible refine Kd.C_alloc ?_ _)|(with_reducible refine Kd.C_drewN ?_ _)|(with_reducible refine Kd.C_drew ?_))); (case side2 => exact HC202_0.out); rintro e w39 ⟨rfl, hb⟩; have n0_ := Q4 (blk_below (g := gb200) (o := .cells #[.slice (some ad202) l0_0.length c0_0, .slice (some ad203) l0_1.length c0_1] 27 (0, 0)) (by (with_reducible repeat (first|refine Qa ?_ _|refine Qb ?_|refine Q7 ?_ _)); exact BK200.out) hb); have n1_ := Q4 (below_step (by repeat (first|(with_reducible first|exact HB.out|apply Q8|apply Q5|apply Q9|refine Q6 ?_ GE200.out)|exact HB.out)) hb); clear BK200; clear HB; have BK200 := n0_; have HB := n1_; clear n0_ n1_;(try clear hb);(try clear hb2);(try clear hk);(try clear hi)))
              go_meet
              case rel => exact ⟨_, (true), (by first|rfl|(simp; done)|(simp [*]; done)), H', ⟨by have := HJ1.out; have := HK2.out; first|omega|exact Nat.le_refl _⟩, ⟨by (with_reducible repeat (first|refine Qa ?_ _|refine Qb ?_|refine Q7 ?_ _)); exact BK200.out⟩, ⟨by repeat (first|(with_reducible first|exact HB.out|apply Q8|apply Q5|apply Q9|refine Q6 ?_ GE200.out)|exact HB.out)⟩⟩
          ·rw [if_neg c21] at H
           exact absurd H (by simp)
         case rest =>
          clear HC19
          (try clear c1);(try clear c2);(try clear p2);(try clear q2);(try clear hx2);(try clear c3);(try clear c5);(try clear c5b0);(try clear c5b1);(try clear c5b2);(try clear c6);(try clear c6b0);(try clear c6b1);(try clear p6);(try clear c8);(try clear c8b0);(try clear c8b1);(try clear c10);(try clear c10b0);(try clear c11);(try clear c11b0);(try clear c12);(try clear c15);(try clear c16);(try clear c16b0);(try clear c17);(try clear c17b0);(try clear c18);(try clear c18b0);(try clear c20);(try clear p20);(try clear q20);(try clear hx20);(try clear c21);(try clear c21b0);(try clear c22);(try clear c22b0);(try clear c24);(try clear c24b0);(try clear c27);(try clear c28);(try clear c28b0);(try clear c28b1);(try clear c31);(try clear c31b0);(try clear c31b1);(try clear hcz12_0);(try clear hcz12_1);(try clear hcz13_0);(try clear hcz13_1);(try clear hcz14_0);(try clear hcz14_1);(try clear hcz20_0);(try clear hcz20_1);(try clear hcz23_0);(try clear hcz23_1);(try clear hcz25_0);(try clear hcz25_1);(try clear hcz29_0);(try clear hcz29_1);(try clear hcz32_0);(try clear hcz32_1);(try clear hcz34_0);(try clear hcz34_1);(try clear hcz35_0);(try clear hcz35_1);(try clear hcz37_0);(try clear hcz37_1);(try clear hcz38_0);(try clear hcz38_1);(try clear hcz4_0);(try clear hcz4_1);(try clear hcz7_0);(try clear hcz7_1);(try clear hfz12_0);(try clear hfz12_1);(try clear hfz13_0);(try clear hfz13_1);(try clear hfz14_0);(try clear hfz14_1);(try clear hfz20_0);(try clear hfz20_1);(try clear hfz23_0);(try clear hfz23_1);(try clear hfz25_0);(try clear hfz25_1);(try clear hfz29_0);(try clear hfz29_1);(try clear hfz32_0);(try clear hfz32_1);(try clear hfz34_0);(try clear hfz34_1);(try clear hfz35_0);(try clear hfz35_1);(try clear hfz37_0);(try clear hfz37_1);(try clear hfz38_0);(try clear hfz38_1);(try clear hfz4_0);(try clear hfz4_1);(try clear hfz7_0);(try clear hfz7_1);(try clear hx201_0);(try clear hx202_0);(try clear hx203_0);(try clear hx204_0);(try clear hx206_0);(try clear p2);(try clear p201);(try clear p202);(try clear p203);(try clear p204);(try clear p206);(try clear p6);(try clear q2);(try clear q201);(try clear q202);(try clear q203);(try clear q204);(try clear q206)
          obtain ⟨kq, x79_18, rfl, HA, HJ18, BK200, HB⟩ := hcut
          cases kq with
          | zero => exact absurd HA.out (by simp [curtilageref05_Fit.j2])
          | succ kj18 =>
           have H := HA.out
           clear HA
           simp only [curtilageref05_Fit.j2] at H
           by_cases c40 : x79_18 = true
           ·subst c40
            have H1 : (some false) = some r := by rw [if_pos rfl] at H; exact H
            clear H
            have H := H1
            clear H1
            obtain rfl := Option.some.inj H
            go_wp2
            go_ret
            exact ⟨by first|rfl|(simp [errW_none, errW_some] <;> rfl)|(simp [*, errW_none, errW_some] <;> rfl), by repeat (first|(with_reducible first|exact HB.out|apply Q8|apply Q5|apply Q9|refine Q6 ?_ GE200.out)|exact HB.out)⟩
           ·replace c40 := Bool.eq_false_iff.mpr c40
            subst c40
            have H1 : ((curtilageref05_Find.f kj18 l0_0 l0_1 (rd_L3 l0_0 x4_2)).bind fun bt207 => (if 0 ≤ x4_2 then (if x4_2 < (l0_1.length : Int) then (if (rd l0_1 x4_2) = 0 then (curtilageref05_Fit.l0 kj18 (l0_0.length : Int) (wrap64 (x4_2 + 1)) l0_0 l0_1) else (if bt207.2 = true then (if bt207.1 = x4_2 then (curtilageref05_Fit.l0 kj18 (l0_0.length : Int) (wrap64 (x4_2 + 1)) l0_0 l0_1) else (some false)) else (some false))) else (none)) else (none))) = some r := by rw [if_neg (show ¬ (false = true) by decide)] at H; exact H
            clear H
            have H := H1
            clear H1
            replace H := Option.bind_eq_some_iff.mp H
            obtain ⟨⟨t207, t208⟩, A410, H⟩ := H
            replace H : (if 0 ≤ x4_2 then (if x4_2 < (l0_1.length : Int) then (if (rd l0_1 x4_2) = 0 then (curtilageref05_Fit.l0 kj18 (l0_0.length : Int) (wrap64 (x4_2 + 1)) l0_0 l0_1) else (if t208 = true then (if t207 = x4_2 then (curtilageref05_Fit.l0 kj18 (l0_0.length : Int) (wrap64 (x4_2 + 1)) l0_0 l0_1) else (some false)) else (some false))) else (none)) else (none)) = some r := H
            have A41 := Q4 A410
            clear A410
            by_cases c42 : 0 ≤ x4_2
            ·rw [if_pos c42] at H
             have c42b0 : decide (0 ≤ x4_2) = true := decide_eq_true c42
             clear c42
             by_cases c43 : x4_2 < (l0_1.length : Int)
             ·rw [if_pos c43] at H
              have c43b0 : decide (x4_2 < (l0_1.length : Int)) = true := decide_eq_true c43
              clear c43
              by_cases c44 : (rd l0_1 x4_2) = 0
              ·rw [if_pos c44] at H
               have c44b0 : ((rd l0_1 x4_2) == 0) = true := beq_iff_eq.mpr c44
               have c44b1 : ((rd l0_1 x4_2) != 0) = false := bne_eq_false_iff_eq.mpr c44
               clear c44
               have H' := Q4 H
               clear H
               have hcz45_0 : wc.cell? ⟨gb200, 0, none⟩ = some (.slice (some ad202) l0_0.length c0_0) := (blk_cell BK200.out 0).trans rfl
               have hcz45_1 : wc.cell? ⟨gb200, 1, none⟩ = some (.slice A0_1 l0_1.length c0_1) := (blk_cell BK200.out 1).trans rfl
               have hfz45_0 := blk_frozen BK200.out 0
               have hfz45_1 := blk_frozen BK200.out 1
               go_wp2_with (first|((with_reducible refine gate_callee (f := 22) rfl ?_); refine goesL_ (some 83) rfl rfl Try.func22 (by kernel_rfl) rfl #[.agg #[.slice (some ad202) l0_0.length c0_0, .slice A0_1 l0_1.length c0_1], .slice A202_0 (rd_L3 l0_0 x4_2).length c202_0] rfl (by (try simp only [List.map_toArray, List.map_cons, List.map_nil]); first | done|rfl|(simp only [List.length_drop, List.length_take]; rfl)) ?_; (with_reducible refine (curtilageref05_Find.calls kj18 _ _ l0_0 _ _ l0_1 _ _ (rd_L3 l0_0 x4_2) t207 t208 _ ?side1 ?side2 ?side3 ?side4 ?side5 ?side6 A41.out).mono ?_); (case side1 => repeat (first|exact (Kd.C_below HR0_0.out HB.out)|(with_reducible refine Kd.C_alloc ?_ _)|(with_reducible refine Kd.C_drewN ?_ _)|(with_reducible refine Kd.C_drew ?_))); (case side2 => exact HC0_0.out); (case side3 => repeat (first|exact (Kd.C_below HR0_1.out HB.out)|(with_reducible refine Kd.C_alloc ?_ _)|(with_reducible refine Kd.C_drewN ?_ _)|(with_reducible refine Kd.C_drew ?_))); (case side4 => exact HC0_1.out); (case side5 => repeat (first|exact (Kd.C_below HR202_0.out HB.out)|(with_reducible refine Kd.C_alloc ?_ _)|(with_reducible refine Kd.C_drewN ?_ _)|(with_reducible refine Kd.C_drew ?_))); (case side6 => exact HC202_0.out); rintro e w46 ⟨rfl, hb⟩; refine ⟨_, rfl, ?_⟩; have n0_ := Q4 (blk_below (g := gb200) (o := .cells #[.slice (some ad202) l0_0.length c0_0, .slice A0_1 l0_1.length c0_1] 27 (0, 0)) (by (with_reducible repeat (first|refine Qa ?_ _|refine Qb ?_|refine Q7 ?_ _)); exact BK200.out) hb); have n1_ := Q4 (below_step (by repeat (first|(with_reducible first|exact HB.out|apply Q8|apply Q5|apply Q9|refine Q6 ?_ GE200.out)|exact HB.out)) hb); clear BK200; clear HB; have BK200 := n0_; have HB := n1_; clear n0_ n1_;(try clear hb);(try clear hb2);(try clear hk);(try clear hi); have hcz47_0 : w46.cell? ⟨gb200, 0, none⟩ = some (.slice (some ad202) l0_0.length c0_0) := (blk_cell BK200.out 0).trans rfl; have hcz47_1 : w46.cell? ⟨gb200, 1, none⟩ = some (.slice A0_1 l0_1.length c0_1) := (blk_cell BK200.out 1).trans rfl; have hfz47_0 := blk_frozen BK200.out 0; have hfz47_1 := blk_frozen BK200.out 1; have p209 : 0 ≤ (x4_2 : Int) := Qc (by first|(with_reducible assumption)|assumption); have q209 : x4_2 < (l0_1.length : Int) := Qc (by first|(with_reducible assumption)|assumption); obtain ⟨ad209, e209, hx209_0⟩ := Kd.at_int HR0_1.out x4_2 p209 q209; cases e209; replace hx209_0 := (HB.out.cell (World.block_lt_of_cell? w _ hx209_0)).trans hx209_0; replace p209 := eq_true p209; replace q209 := eq_true q209))
               go_roundg kj18
               case measure => have := HJ1.out; have := HK2.out; have := HJ18.out; omega
               case rel => exact ⟨(wrap64 (x4_2 + 1)), (by first|rfl|(simp; done)|(simp [*]; done)), H', ⟨by have := HJ1.out; have := HK2.out; have := HJ18.out; omega⟩, ⟨by (with_reducible repeat (first|refine Qa ?_ _|refine Qb ?_|refine Q7 ?_ _)); exact BK200.out⟩, ⟨by repeat (first|(with_reducible first|exact HB.out|apply Q8|apply Q5|apply Q9|refine Q6 ?_ GE200.out)|exact HB.out)⟩⟩
              ·rw [if_neg c44] at H
               have c44b0 : ((rd l0_1 x4_2) == 0) = false := beq_eq_false_iff_ne.mpr c44
               have c44b1 : ((rd l0_1 x4_2) != 0) = true := bne_iff_ne.mpr c44
               by_cases c48 : t208 = true
               ·subst c48
                have H1 : (if t207 = x4_2 then (curtilageref05_Fit.l0 kj18 (l0_0.length : Int) (wrap64 (x4_2 + 1)) l0_0 l0_1) else (some false)) = some r := by rw [if_pos rfl] at H; exact H
                clear H
                have H := H1
                clear H1
                by_cases c49 : t207 = x4_2
                ·rw [if_pos c49] at H
                 have c49b0 : (t207 == x4_2) = true := beq_iff_eq.mpr c49
                 have c49b1 : (t207 != x4_2) = false := bne_eq_false_iff_eq.mpr c49
                 clear c49
                 have H' := Q4 H
                 clear H
                 have hcz50_0 : wc.cell? ⟨gb200, 0, none⟩ = some (.slice (some ad202) l0_0.length c0_0) := (blk_cell BK200.out 0).trans rfl
                 have hcz50_1 : wc.cell? ⟨gb200, 1, none⟩ = some (.slice A0_1 l0_1.length c0_1) := (blk_cell BK200.out 1).trans rfl
                 have hfz50_0 := blk_frozen BK200.out 0
                 have hfz50_1 := blk_frozen BK200.out 1
                 go_wp2_with (first|((with_reducible refine gate_callee (f := 22) rfl ?_); refine goesL_ (some 83) rfl rfl Try.func22 (by kernel_rfl) rfl #[.agg #[.slice (some ad202) l0_0.length c0_0, .slice A0_1 l0_1.length c0_1], .slice A202_0 (rd_L3 l0_0 x4_2).length c202_0] rfl (by (try simp only [List.map_toArray, List.map_cons, List.map_nil]); first | done|rfl|(simp only [List.length_drop, List.length_take]; rfl)) ?_; (with_reducible refine (curtilageref05_Find.calls kj18 _ _ l0_0 _ _ l0_1 _ _ (rd_L3 l0_0 x4_2) t207 true _ ?side1 ?side2 ?side3 ?side4 ?side5 ?side6 A41.out).mono ?_); (case side1 => repeat (first|exact (Kd.C_below HR0_0.out HB.out)|(with_reducible refine Kd.C_alloc ?_ _)|(with_reducible refine Kd.C_drewN ?_ _)|(with_reducible refine Kd.C_drew ?_))); (case side2 => exact HC0_0.out); (case side3 => repeat (first|exact (Kd.C_below HR0_1.out HB.out)|(with_reducible refine Kd.C_alloc ?_ _)|(with_reducible refine Kd.C_drewN ?_ _)|(with_reducible refine Kd.C_drew ?_))); (case side4 => exact HC0_1.out); (case side5 => repeat (first|exact (Kd.C_below HR202_0.out HB.out)|(with_reducible refine Kd.C_alloc ?_ _)|(with_reducible refine Kd.C_drewN ?_ _)|(with_reducible refine Kd.C_drew ?_))); (case side6 => exact HC202_0.out); rintro e w51 ⟨rfl, hb⟩; refine ⟨_, rfl, ?_⟩; have n0_ := Q4 (blk_below (g := gb200) (o := .cells #[.slice (some ad202) l0_0.length c0_0, .slice A0_1 l0_1.length c0_1] 27 (0, 0)) (by (with_reducible repeat (first|refine Qa ?_ _|refine Qb ?_|refine Q7 ?_ _)); exact BK200.out) hb); have n1_ := Q4 (below_step (by repeat (first|(with_reducible first|exact HB.out|apply Q8|apply Q5|apply Q9|refine Q6 ?_ GE200.out)|exact HB.out)) hb); clear BK200; clear HB; have BK200 := n0_; have HB := n1_; clear n0_ n1_;(try clear hb);(try clear hb2);(try clear hk);(try clear hi); have hcz52_0 : w51.cell? ⟨gb200, 0, none⟩ = some (.slice (some ad202) l0_0.length c0_0) := (blk_cell BK200.out 0).trans rfl; have hcz52_1 : w51.cell? ⟨gb200, 1, none⟩ = some (.slice A0_1 l0_1.length c0_1) := (blk_cell BK200.out 1).trans rfl; have hfz52_0 := blk_frozen BK200.out 0; have hfz52_1 := blk_frozen BK200.out 1; have p209 : 0 ≤ (x4_2 : Int) := Qc (by first|(with_reducible assumption)|assumption); have q209 : x4_2 < (l0_1.length : Int) := Qc (by first|(with_reducible assumption)|assumption); obtain ⟨ad209, e209, hx209_0⟩ := Kd.at_int HR0_1.out x4_2 p209 q209; cases e209; replace hx209_0 := (HB.out.cell (World.block_lt_of_cell? w _ hx209_0)).trans hx209_0; replace p209 := eq_true p209; replace q209 := eq_true q209))
                 go_roundg kj18
                 case measure => have := HJ1.out; have := HK2.out; have := HJ18.out; omega
                 case rel => exact ⟨(wrap64 (x4_2 + 1)), (by first|rfl|(simp; done)|(simp [*]; done)), H', ⟨by have := HJ1.out; have := HK2.out; have := HJ18.out; omega⟩, ⟨by (with_reducible repeat (first|refine Qa ?_ _|refine Qb ?_|refine Q7 ?_ _)); exact BK200.out⟩, ⟨by repeat (first|(with_reducible first|exact HB.out|apply Q8|apply Q5|apply Q9|refine Q6 ?_ GE200.out)|exact HB.out)⟩⟩
                ·rw [if_neg c49] at H
                 have c49b0 : (t207 == x4_2) = false := beq_eq_false_iff_ne.mpr c49
                 have c49b1 : (t207 != x4_2) = true := bne_iff_ne.mpr c49
                 obtain rfl := Option.some.inj H
                 have hcz53_0 : wc.cell? ⟨gb200, 0, none⟩ = some (.slice (some ad202) l0_0.length c0_0) := (blk_cell BK200.out 0).trans rfl
                 have hcz53_1 : wc.cell? ⟨gb200, 1, none⟩ = some (.slice A0_1 l0_1.length c0_1) := (blk_cell BK200.out 1).trans rfl
                 have hfz53_0 := blk_frozen BK200.out 0
                 have hfz53_1 := blk_frozen BK200.out 1
                 go_wp2_with (first|((with_reducible refine gate_callee (f := 22) rfl ?_); refine goesL_ (some 83) rfl rfl Try.func22 (by kernel_rfl) rfl #[.agg #[.slice (some ad202) l0_0.length c0_0, .slice A0_1 l0_1.length c0_1], .slice A202_0 (rd_L3 l0_0 x4_2).length c202_0] rfl (by (try simp only [List.map_toArray, List.map_cons, List.map_nil]); first | done|rfl|(simp only [List.length_drop, List.length_take]; rfl)) ?_; (with_reducible refine (curtilageref05_Find.calls kj18 _ _ l0_0 _ _ l0_1 _ _ (rd_L3 l0_0 x4_2) t207 true _ ?side1 ?side2 ?side3 ?side4 ?side5 ?side6 A41.out).mono ?_); (case side1 => repeat (first|exact (Kd.C_below HR0_0.out HB.out)|(with_reducible refine Kd.C_alloc ?_ _)|(with_reducible refine Kd.C_drewN ?_ _)|(with_reducible refine Kd.C_drew ?_))); (case side2 => exact HC0_0.out); (case side3 => repeat (first|exact (Kd.C_below HR0_1.out HB.out)|(with_reducible refine Kd.C_alloc ?_ _)|(with_reducible refine Kd.C_drewN ?_ _)|(with_reducible refine Kd.C_drew ?_))); (case side4 => exact HC0_1.out); (case side5 => repeat (first|exact (Kd.C_below HR202_0.out HB.out)|(with_reducible refine Kd.C_alloc ?_ _)|(with_reducible refine Kd.C_drewN ?_ _)|(with_reducible refine Kd.C_drew ?_))); (case side6 => exact HC202_0.out); rintro e w54 ⟨rfl, hb⟩; refine ⟨_, rfl, ?_⟩; have n0_ := Q4 (blk_below (g := gb200) (o := .cells #[.slice (some ad202) l0_0.length c0_0, .slice A0_1 l0_1.length c0_1] 27 (0, 0)) (by (with_reducible repeat (first|refine Qa ?_ _|refine Qb ?_|refine Q7 ?_ _)); exact BK200.out) hb); have n1_ := Q4 (below_step (by repeat (first|(with_reducible first|exact HB.out|apply Q8|apply Q5|apply Q9|refine Q6 ?_ GE200.out)|exact HB.out)) hb); clear BK200; clear HB; have BK200 := n0_; have HB := n1_; clear n0_ n1_;(try clear hb);(try clear hb2);(try clear hk);(try clear hi); have hcz55_0 : w54.cell? ⟨gb200, 0, none⟩ = some (.slice (some ad202) l0_0.length c0_0) := (blk_cell BK200.out 0).trans rfl; have hcz55_1 : w54.cell? ⟨gb200, 1, none⟩ = some (.slice A0_1 l0_1.length c0_1) := (blk_cell BK200.out 1).trans rfl; have hfz55_0 := blk_frozen BK200.out 0; have hfz55_1 := blk_frozen BK200.out 1; have p209 : 0 ≤ (x4_2 : Int) := Qc (by first|(with_reducible assumption)|assumption); have q209 : x4_2 < (l0_1.length : Int) := Qc (by first|(with_reducible assumption)|assumption); obtain ⟨ad209, e209, hx209_0⟩ := Kd.at_int HR0_1.out x4_2 p209 q209; cases e209; replace hx209_0 := (HB.out.cell (World.block_lt_of_cell? w _ hx209_0)).trans hx209_0; replace p209 := eq_true p209; replace q209 := eq_true q209))
                 go_ret
                 exact ⟨by first|rfl|(simp [errW_none, errW_some] <;> rfl)|(simp [*, errW_none, errW_some] <;> rfl), by repeat (first|(with_reducible first|exact HB.out|apply Q8|apply Q5|apply Q9|refine Q6 ?_ GE200.out)|exact HB.out)⟩
               ·replace c48 := Bool.eq_false_iff.mpr c48
                subst c48
                have H1 : (some false) = some r := by rw [if_neg (show ¬ (false = true) by decide)] at H; exact H
                clear H
                have H := H1
                clear H1
                obtain rfl := Option.some.inj H
                have hcz56_0 : wc.cell? ⟨gb200, 0, none⟩ = some (.slice (some ad202) l0_0.length c0_0) := (blk_cell BK200.out 0).trans rfl
                have hcz56_1 : wc.cell? ⟨gb200, 1, none⟩ = some (.slice A0_1 l0_1.length c0_1) := (blk_cell BK200.out 1).trans rfl
                have hfz56_0 := blk_frozen BK200.out 0
                have hfz56_1 := blk_frozen BK200.out 1
                go_wp2_with (first|((with_reducible refine gate_callee (f := 22) rfl ?_); refine goesL_ (some 83) rfl rfl Try.func22 (by kernel_rfl) rfl #[.agg #[.slice (some ad202) l0_0.length c0_0, .slice A0_1 l0_1.length c0_1], .slice A202_0 (rd_L3 l0_0 x4_2).length c202_0] rfl (by (try simp only [List.map_toArray, List.map_cons, List.map_nil]); first | done|rfl|(simp only [List.length_drop, List.length_take]; rfl)) ?_; (with_reducible refine (curtilageref05_Find.calls kj18 _ _ l0_0 _ _ l0_1 _ _ (rd_L3 l0_0 x4_2) t207 false _ ?side1 ?side2 ?side3 ?side4 ?side5 ?side6 A41.out).mono ?_); (case side1 => repeat (first|exact (Kd.C_below HR0_0.out HB.out)|(with_reducible refine Kd.C_alloc ?_ _)|(with_reducible refine Kd.C_drewN ?_ _)|(with_reducible refine Kd.C_drew ?_))); (case side2 => exact HC0_0.out); (case side3 => repeat (first|exact (Kd.C_below HR0_1.out HB.out)|(with_reducible refine Kd.C_alloc ?_ _)|(with_reducible refine Kd.C_drewN ?_ _)|(with_reducible refine Kd.C_drew ?_))); (case side4 => exact HC0_1.out); (case side5 => repeat (first|exact (Kd.C_below HR202_0.out HB.out)|(with_reducible refine Kd.C_alloc ?_ _)|(with_reducible refine Kd.C_drewN ?_ _)|(with_reducible refine Kd.C_drew ?_))); (case side6 => exact HC202_0.out); rintro e w57 ⟨rfl, hb⟩; refine ⟨_, rfl, ?_⟩; have n0_ := Q4 (blk_below (g := gb200) (o := .cells #[.slice (some ad202) l0_0.length c0_0, .slice A0_1 l0_1.length c0_1] 27 (0, 0)) (by (with_reducible repeat (first|refine Qa ?_ _|refine Qb ?_|refine Q7 ?_ _)); exact BK200.out) hb); have n1_ := Q4 (below_step (by repeat (first|(with_reducible first|exact HB.out|apply Q8|apply Q5|apply Q9|refine Q6 ?_ GE200.out)|exact HB.out)) hb); clear BK200; clear HB; have BK200 := n0_; have HB := n1_; clear n0_ n1_;(try clear hb);(try clear hb2);(try clear hk);(try clear hi); have hcz58_0 : w57.cell? ⟨gb200, 0, none⟩ = some (.slice (some ad202) l0_0.length c0_0) := (blk_cell BK200.out 0).trans rfl; have hcz58_1 : w57.cell? ⟨gb200, 1, none⟩ = some (.slice A0_1 l0_1.length c0_1) := (blk_cell BK200.out 1).trans rfl; have hfz58_0 := blk_frozen BK200.out 0; have hfz58_1 := blk_frozen BK200.out 1; have p209 : 0 ≤ (x4_2 : Int) := Qc (by first|(with_reducible assumption)|assumption); have q209 : x4_2 < (l0_1.length : Int) := Qc (by first|(with_reducible assumption)|assumption); obtain ⟨ad209, e209, hx209_0⟩ := Kd.at_int HR0_1.out x4_2 p209 q209; cases e209; replace hx209_0 := (HB.out.cell (World.block_lt_of_cell? w _ hx209_0)).trans hx209_0; replace p209 := eq_true p209; replace q209 := eq_true q209))
                go_ret
                exact ⟨by first|rfl|(simp [errW_none, errW_some] <;> rfl)|(simp [*, errW_none, errW_some] <;> rfl), by repeat (first|(with_reducible first|exact HB.out|apply Q8|apply Q5|apply Q9|refine Q6 ?_ GE200.out)|exact HB.out)⟩
             ·rw [if_neg c43] at H
              exact absurd H (by simp)
            ·rw [if_neg c42] at H
             exact absurd H (by simp)
        ·rw [if_neg c18] at H
         exact absurd H (by simp)
       ·rw [if_neg c17] at H
        exact absurd H (by simp)
      ·rw [if_neg c16] at H
       have c16b0 : decide (x4_2 < (l0_0.length : Int)) = false := decide_eq_false c16
       clear c16
       obtain rfl := Option.some.inj H
       go_wp2
       go_ret
       exact ⟨by first|rfl|(simp [errW_none, errW_some] <;> rfl)|(simp [*, errW_none, errW_some] <;> rfl), by repeat (first|(with_reducible first|exact HB.out|apply Q8|apply Q5|apply Q9|refine Q6 ?_ GE200.out)|exact HB.out)⟩

-- NOT PRINTED: function 34 (api_Label_34)

end Go.Proofs.Ytfoagjdcgipcaaa.X
-- pressed
