/- Walks of Go functions: each proves that the call answers what the Lean function of its name computes, wherever that is told; written by a program of this work out of the translation. -/
import Derived.Test.YtfoagjdcgipcaaaXx14a
namespace Go.Proofs.Ytfoagjdcgipcaaa.X
open Go.RowKit Go.Proofs.YtfoagjdcgipcaaaW.PrintWords Go.Proofs.YtfoagjdcgipcaaaW.PrintLast

set_option linter.unusedVariables false
set_option linter.unusedSimpArgs false

set_option maxHeartbeats 8000000 in
set_option maxRecDepth 100000 in
theorem curtilagelaw05_InternDoes.calls (k : Nat) (A0_0 : Option Addr) (c0_0 : Nat) (l0_0 : List (List (S57))) (A0_1 : Option Addr) (c0_1 : Nat) (l0_1 : List Int) (A1_0 : Option Addr) (c1_0 : Nat) (l1_0 : List (List (S57))) (A1_1 : Option Addr) (c1_1 : Nat) (l1_1 : List Int) (A2 : Option Addr) (c2 : Nat) (l2 : List (S57)) (a3 : Int) (w : World) (hr0_0 : Kd.C (Kd.slice 57 k57) w A0_0 l0_0.length l0_0) (hc0_0 : l0_0.length ≤ c0_0) (hr0_1 : Kd.C (Kd.int .i64) w A0_1 l0_1.length l0_1) (hc0_1 : l0_1.length ≤ c0_1) (hr1_0 : Kd.C (Kd.slice 57 k57) w A1_0 l1_0.length l1_0) (hc1_0 : l1_0.length ≤ c1_0) (hr1_1 : Kd.C (Kd.int .i64) w A1_1 l1_1.length l1_1) (hc1_1 : l1_1.length ≤ c1_1) (hr2 : Kd.C k57 w A2 l2.length l2) (hc2 : l2.length ≤ c2) (h : curtilagelaw05_InternDoes.f k l0_0 l0_1 l1_0 l1_1 l2 a3 = some true) :
  Calls Try.prog 5 #[.agg #[.slice A0_0 l0_0.length c0_0, .slice A0_1 l0_1.length c0_1], .agg #[.slice A1_0 l1_0.length c1_0, .slice A1_1 l1_1.length c1_1], .slice A2 l2.length c2, .int .i64 a3] w fun e w' => e = .returned (.bool true) ∧ Below w.heap.size w w' := by
 have hu27 := Try.underlying27
 have HR0_0 := Q4 hr0_0
 have HC0_0 := Q4 hc0_0
 clear hr0_0 hc0_0
 have HR0_1 := Q4 hr0_1
 have HC0_1 := Q4 hc0_1
 clear hr0_1 hc0_1
 have HR1_0 := Q4 hr1_0
 have HC1_0 := Q4 hc1_0
 clear hr1_0 hc1_0
 have HR1_1 := Q4 hr1_1
 have HC1_1 := Q4 hc1_1
 clear hr1_1 hc1_1
 have HR2 := Q4 hr2
 have HC2 := Q4 hc2
 clear hr2 hc2
 have HB := Q4 (Below.refl w.heap.size w)
 have H : ((curtilagelaw05_few.f k l0_0 l0_1).bind fun t235 => (if t235 = true then ((curtilagelaw05_few.f k l1_0 l1_1).bind fun t236 => (if t236 = true then (curtilagelaw05_InternDoes.j0 k l2 a3 (decide ((l2.length : Int) > 40)) l0_0 l0_1 l1_0 l1_1) else (curtilagelaw05_InternDoes.j0 k l2 a3 true l0_0 l0_1 l1_0 l1_1))) else (curtilagelaw05_InternDoes.j0 k l2 a3 true l0_0 l0_1 l1_0 l1_1))) = some true := h
 clear h
 have HC5 := Q4 H
 clear H
 go_enter Try.func5, Try.ntmps5
 go_upto_region 1 with (first | ((with_reducible refine gate_dst (N := 4) rfl ?_); (try (refine gate_guard (by rfl) ?_; dsimp only)); refine box_event ?hg (N := 4) ?hd (cs := #[.slice A0_0 l0_0.length c0_0, .slice A0_1 l0_1.length c0_1]) (t := 27) ?hr ?_; (case hd => rfl); (case hg => rfl); (case hr => first | (go_simp; done) | (go_simp; rfl)); intro gb233 hg w6 hbox hb; have n0_ := Q4 (below_step (by repeat (first | (with_reducible first|exact HB.out|apply Q8|apply Q5|apply Q9)|exact HB.out)) hb); have n1_ := Q4 (hbox); have n2_ := Q4 ((by rw [hg]; exact (below_size (by repeat (first | (with_reducible first|exact HB.out|apply Q8|apply Q5|apply Q9)|exact HB.out))) : w.heap.size ≤ gb233)); have n3_ := Q4 ((by rw [hg]; exact (below_size (by repeat (first | (with_reducible first|exact HB.out|apply Q8|apply Q5|apply Q9)|exact HB.out))) : w.heap.size ≤ gb233)); clear HB; have HB := n0_; have BK233 := n1_; have GW233 := n2_; have GE233 := n3_; clear n0_ n1_ n2_ n3_; clear hb hbox hg) | ((with_reducible refine gate_dst (N := 5) rfl ?_); (try (refine gate_guard (by rfl) ?_; dsimp only)); refine box_event ?hg (N := 5) ?hd (cs := #[.slice A1_0 l1_0.length c1_0, .slice A1_1 l1_1.length c1_1]) (t := 27) ?hr ?_; (case hd => rfl); (case hg => rfl); (case hr => first | (go_simp; done) | (go_simp; rfl)); intro gb234 hg w7 hbox hb; have n0_ := Q4 (blk_below (g := gb233) (o := .cells #[.slice A0_0 l0_0.length c0_0, .slice A0_1 l0_1.length c0_1] 27 (0, 0)) (by (with_reducible repeat (first|refine Qa ?_ _|refine Qb ?_|refine Q7 ?_ _)); exact BK233.out) hb); have n1_ := Q4 (below_step (by repeat (first | (with_reducible first|exact HB.out|apply Q8|apply Q5|apply Q9|refine Q6 ?_ GE233.out)|exact HB.out)) hb); have n2_ := Q4 (hbox); have n3_ := Q4 ((by rw [hg]; exact (below_size (by repeat (first | (with_reducible first|exact HB.out|apply Q8|apply Q5|apply Q9|refine Q6 ?_ GE233.out)|exact HB.out))) : w.heap.size ≤ gb234)); have n4_ := Q4 ((by rw [hg]; exact (below_size (by repeat (first | (with_reducible first|exact HB.out|apply Q8|apply Q5|apply Q9|refine Q6 ?_ GE233.out)|exact HB.out))) : w.heap.size ≤ gb234)); have n5_ := Q4 ((by rw [hg]; exact Nat.ne_of_lt (blk_lt (g := gb233) (o := .cells #[.slice A0_0 l0_0.length c0_0, .slice A0_1 l0_1.length c0_1] 27 (0, 0)) (by (with_reducible repeat (first|refine Qa ?_ _|refine Qb ?_|refine Q7 ?_ _)); exact BK233.out)) : gb233 ≠ gb234)); have n6_ := Q4 ((by rw [hg]; exact Nat.ne_of_gt (blk_lt (g := gb233) (o := .cells #[.slice A0_0 l0_0.length c0_0, .slice A0_1 l0_1.length c0_1] 27 (0, 0)) (by (with_reducible repeat (first|refine Qa ?_ _|refine Qb ?_|refine Q7 ?_ _)); exact BK233.out)) : gb234 ≠ gb233)); clear BK233; clear HB; have BK233 := n0_; have HB := n1_; have BK234 := n2_; have GW234 := n3_; have GE234 := n4_; have NB233_234 := n5_; have NB234_233 := n6_; clear n0_ n1_ n2_ n3_ n4_ n5_ n6_; clear hb hbox hg))
 (try simp only [Act.put, Q1,Q2,Q3])
 go_cut [39] (fun v39 wc => ∃ (kq : Nat) (x39_4 : Bool), v39 = .bool x39_4 ∧ Aside0 (curtilagelaw05_InternDoes.j0 kq l2 a3 x39_4 l0_0 l0_1 l1_0 l1_1 = some true) ∧ Aside0 (kq ≤ k) ∧ Aside0 (wc.heap[gb233]? = some (.cells #[(.slice A0_0 l0_0.length c0_0), (.slice A0_1 l0_1.length c0_1)] 27 (0, 0))) ∧ Aside0 (wc.heap[gb234]? = some (.cells #[(.slice A1_0 l1_0.length c1_0), (.slice A1_1 l1_1.length c1_1)] 27 (0, 0))) ∧ Aside0 (Below w.heap.size w wc))
 case first =>
  have H := HC5.out
  clear HC5
  replace H := Option.bind_eq_some_iff.mp H
  obtain ⟨t235, A80, H⟩ := H
  replace H : (if t235 = true then ((curtilagelaw05_few.f k l1_0 l1_1).bind fun t236 => (if t236 = true then (curtilagelaw05_InternDoes.j0 k l2 a3 (decide ((l2.length : Int) > 40)) l0_0 l0_1 l1_0 l1_1) else (curtilagelaw05_InternDoes.j0 k l2 a3 true l0_0 l0_1 l1_0 l1_1))) else (curtilagelaw05_InternDoes.j0 k l2 a3 true l0_0 l0_1 l1_0 l1_1)) = some true := H
  have A8 := Q4 A80
  clear A80
  by_cases c9 : t235 = true
  ·subst c9
   have H1 : ((curtilagelaw05_few.f k l1_0 l1_1).bind fun t236 => (if t236 = true then (curtilagelaw05_InternDoes.j0 k l2 a3 (decide ((l2.length : Int) > 40)) l0_0 l0_1 l1_0 l1_1) else (curtilagelaw05_InternDoes.j0 k l2 a3 true l0_0 l0_1 l1_0 l1_1))) = some true := by rw [if_pos rfl] at H; exact H
   clear H
   have H := H1
   clear H1
   replace H := Option.bind_eq_some_iff.mp H
   obtain ⟨t236, A100, H⟩ := H
   replace H : (if t236 = true then (curtilagelaw05_InternDoes.j0 k l2 a3 (decide ((l2.length : Int) > 40)) l0_0 l0_1 l1_0 l1_1) else (curtilagelaw05_InternDoes.j0 k l2 a3 true l0_0 l0_1 l1_0 l1_1)) = some true := H
   have A10 := Q4 A100
   clear A100
   by_cases c11 : t236 = true
   ·subst c11
    have H1 : (curtilagelaw05_InternDoes.j0 k l2 a3 (decide ((l2.length : Int) > 40)) l0_0 l0_1 l1_0 l1_1) = some true := by rw [if_pos rfl] at H; exact H
    clear H
    have H := H1
    clear H1
    have H' := Q4 H
    clear H
    have hnb12 := NB233_234.out
    have hnc12 := NB234_233.out
    have hcz13_0 : w7.cell? ⟨gb233, 0, none⟩ = some (.slice A0_0 l0_0.length c0_0) := (blk_cell BK233.out 0).trans rfl
    have hcz13_1 : w7.cell? ⟨gb233, 1, none⟩ = some (.slice A0_1 l0_1.length c0_1) := (blk_cell BK233.out 1).trans rfl
    have hfz13_0 := blk_frozen BK233.out 0
    have hfz13_1 := blk_frozen BK233.out 1
    go_wp2_with (first | ((with_reducible refine gate_callee (f := 11) rfl ?_); refine goesL_ (some 28) rfl rfl Try.func11 (by kernel_rfl) rfl #[.agg #[.slice A0_0 l0_0.length c0_0, .slice A0_1 l0_1.length c0_1]] rfl (by (try simp only [List.map_toArray, List.map_cons, List.map_nil]); first | done | rfl | (simp only [List.length_drop, List.length_take]; rfl)) ?_; (with_reducible refine (curtilagelaw05_few.calls k _ _ l0_0 _ _ l0_1 true _ ?side1 ?side2 ?side3 ?side4 A8.out).mono ?_); (case side1 => repeat (first|exact (Kd.C_below HR0_0.out HB.out) | (with_reducible refine Kd.C_alloc ?_ _) | (with_reducible refine Kd.C_drewN ?_ _) | (with_reducible refine Kd.C_drew ?_))); (case side2 => exact HC0_0.out); (case side3 => repeat (first|exact (Kd.C_below HR0_1.out HB.out) | (with_reducible refine Kd.C_alloc ?_ _) | (with_reducible refine Kd.C_drewN ?_ _) | (with_reducible refine Kd.C_drew ?_))); (case side4 => exact HC0_1.out); rintro e w14 ⟨rfl, hb⟩; refine ⟨_, rfl, ?_⟩; have n0_ := Q4 (blk_below (g := gb233) (o := .cells #[.slice A0_0 l0_0.length c0_0, .slice A0_1 l0_1.length c0_1] 27 (0, 0)) (by (with_reducible repeat (first|refine Qa ?_ _|refine Qb ?_|refine Q7 ?_ _)); exact BK233.out) hb); have n1_ := Q4 (blk_below (g := gb234) (o := .cells #[.slice A1_0 l1_0.length c1_0, .slice A1_1 l1_1.length c1_1] 27 (0, 0)) (by (with_reducible repeat (first|refine Qa ?_ _|refine Qb ?_|refine Q7 ?_ _)); exact BK234.out) hb); have n2_ := Q4 (below_step (by repeat (first | (with_reducible first|exact HB.out|apply Q8|apply Q5|apply Q9|refine Q6 ?_ GE233.out|refine Q6 ?_ GE234.out)|exact HB.out)) hb); clear BK233; clear BK234; clear HB; have BK233 := n0_; have BK234 := n1_; have HB := n2_; clear n0_ n1_ n2_; (try clear hb); (try clear hb2); (try clear hk); (try clear hi); have hcz15_0 : w14.cell? ⟨gb234, 0, none⟩ = some (.slice A1_0 l1_0.length c1_0) := (blk_cell BK234.out 0).trans rfl; have hcz15_1 : w14.cell? ⟨gb234, 1, none⟩ = some (.slice A1_1 l1_1.length c1_1) := (blk_cell BK234.out 1).trans rfl; have hfz15_0 := blk_frozen BK234.out 0; have hfz15_1 := blk_frozen BK234.out 1) | (go_at_call 11; (with_reducible refine (curtilagelaw05_few.calls k _ _ l1_0 _ _ l1_1 true _ ?side1 ?side2 ?side3 ?side4 A10.out).mono ?_); (case side1 => repeat (first|exact (Kd.C_below HR1_0.out HB.out) | (with_reducible refine Kd.C_alloc ?_ _) | (with_reducible refine Kd.C_drewN ?_ _) | (with_reducible refine Kd.C_drew ?_))); (case side2 => exact HC1_0.out); (case side3 => repeat (first|exact (Kd.C_below HR1_1.out HB.out) | (with_reducible refine Kd.C_alloc ?_ _) | (with_reducible refine Kd.C_drewN ?_ _) | (with_reducible refine Kd.C_drew ?_))); (case side4 => exact HC1_1.out); rintro e w16 ⟨rfl, hb⟩; have n0_ := Q4 (blk_below (g := gb233) (o := .cells #[.slice A0_0 l0_0.length c0_0, .slice A0_1 l0_1.length c0_1] 27 (0, 0)) (by (with_reducible repeat (first|refine Qa ?_ _|refine Qb ?_|refine Q7 ?_ _)); exact BK233.out) hb); have n1_ := Q4 (blk_below (g := gb234) (o := .cells #[.slice A1_0 l1_0.length c1_0, .slice A1_1 l1_1.length c1_1] 27 (0, 0)) (by (with_reducible repeat (first|refine Qa ?_ _|refine Qb ?_|refine Q7 ?_ _)); exact BK234.out) hb); have n2_ := Q4 (below_step (by repeat (first | (with_reducible first|exact HB.out|apply Q8|apply Q5|apply Q9|refine Q6 ?_ GE233.out|refine Q6 ?_ GE234.out)|exact HB.out)) hb); clear BK233; clear BK234; clear HB; have BK233 := n0_; have BK234 := n1_; have HB := n2_; clear n0_ n1_ n2_; (try clear hb); (try clear hb2); (try clear hk); (try clear hi)))
    go_meet
    case rel => exact ⟨_, (decide ((l2.length : Int) > 40)), (by first | rfl | (simp; done) | (simp [*]; done)), H', ⟨by first | omega|exact Nat.le_refl _⟩, ⟨by (with_reducible repeat (first|refine Qa ?_ _|refine Qb ?_|refine Q7 ?_ _)); exact BK233.out⟩, ⟨by (with_reducible repeat (first|refine Qa ?_ _|refine Qb ?_|refine Q7 ?_ _)); exact BK234.out⟩, ⟨by repeat (first | (with_reducible first|exact HB.out|apply Q8|apply Q5|apply Q9|refine Q6 ?_ GE233.out|refine Q6 ?_ GE234.out)|exact HB.out)⟩⟩
   ·replace c11 := Bool.eq_false_iff.mpr c11
    subst c11
    have H1 : (curtilagelaw05_InternDoes.j0 k l2 a3 true l0_0 l0_1 l1_0 l1_1) = some true := by rw [if_neg (show ¬ (false = true) by decide)] at H; exact H
    clear H
    have H := H1
    clear H1
    have H' := Q4 H
    clear H
    have hnb17 := NB233_234.out
    have hnc17 := NB234_233.out
    have hcz18_0 : w7.cell? ⟨gb233, 0, none⟩ = some (.slice A0_0 l0_0.length c0_0) := (blk_cell BK233.out 0).trans rfl
    have hcz18_1 : w7.cell? ⟨gb233, 1, none⟩ = some (.slice A0_1 l0_1.length c0_1) := (blk_cell BK233.out 1).trans rfl
    have hfz18_0 := blk_frozen BK233.out 0
    have hfz18_1 := blk_frozen BK233.out 1
    go_wp2_with (first | ((with_reducible refine gate_callee (f := 11) rfl ?_); refine goesL_ (some 28) rfl rfl Try.func11 (by kernel_rfl) rfl #[.agg #[.slice A0_0 l0_0.length c0_0, .slice A0_1 l0_1.length c0_1]] rfl (by (try simp only [List.map_toArray, List.map_cons, List.map_nil]); first | done | rfl | (simp only [List.length_drop, List.length_take]; rfl)) ?_; (with_reducible refine (curtilagelaw05_few.calls k _ _ l0_0 _ _ l0_1 true _ ?side1 ?side2 ?side3 ?side4 A8.out).mono ?_); (case side1 => repeat (first|exact (Kd.C_below HR0_0.out HB.out) | (with_reducible refine Kd.C_alloc ?_ _) | (with_reducible refine Kd.C_drewN ?_ _) | (with_reducible refine Kd.C_drew ?_))); (case side2 => exact HC0_0.out); (case side3 => repeat (first|exact (Kd.C_below HR0_1.out HB.out) | (with_reducible refine Kd.C_alloc ?_ _) | (with_reducible refine Kd.C_drewN ?_ _) | (with_reducible refine Kd.C_drew ?_))); (case side4 => exact HC0_1.out); rintro e w19 ⟨rfl, hb⟩; refine ⟨_, rfl, ?_⟩; have n0_ := Q4 (blk_below (g := gb233) (o := .cells #[.slice A0_0 l0_0.length c0_0, .slice A0_1 l0_1.length c0_1] 27 (0, 0)) (by (with_reducible repeat (first|refine Qa ?_ _|refine Qb ?_|refine Q7 ?_ _)); exact BK233.out) hb); have n1_ := Q4 (blk_below (g := gb234) (o := .cells #[.slice A1_0 l1_0.length c1_0, .slice A1_1 l1_1.length c1_1] 27 (0, 0)) (by (with_reducible repeat (first|refine Qa ?_ _|refine Qb ?_|refine Q7 ?_ _)); exact BK234.out) hb); have n2_ := Q4 (below_step (by repeat (first | (with_reducible first|exact HB.out|apply Q8|apply Q5|apply Q9|refine Q6 ?_ GE233.out|refine Q6 ?_ GE234.out)|exact HB.out)) hb); clear BK233; clear BK234; clear HB; have BK233 := n0_; have BK234 := n1_; have HB := n2_; clear n0_ n1_ n2_; (try clear hb); (try clear hb2); (try clear hk); (try clear hi); have hcz20_0 : w19.cell? ⟨gb234, 0, none⟩ = some (.slice A1_0 l1_0.length c1_0) := (blk_cell BK234.out 0).trans rfl; have hcz20_1 : w19.cell? ⟨gb234, 1, none⟩ = some (.slice A1_1 l1_1.length c1_1) := (blk_cell BK234.out 1).trans rfl; have hfz20_0 := blk_frozen BK234.out 0; have hfz20_1 := blk_frozen BK234.out 1) | (go_at_call 11; (with_reducible refine (curtilagelaw05_few.calls k _ _ l1_0 _ _ l1_1 false _ ?side1 ?side2 ?side3 ?side4 A10.out).mono ?_); (case side1 => repeat (first|exact (Kd.C_below HR1_0.out HB.out) | (with_reducible refine Kd.C_alloc ?_ _) | (with_reducible refine Kd.C_drewN ?_ _) | (with_reducible refine Kd.C_drew ?_))); (case side2 => exact HC1_0.out); (case side3 => repeat (first|exact (Kd.C_below HR1_1.out HB.out) | (with_reducible refine Kd.C_alloc ?_ _) | (with_reducible refine Kd.C_drewN ?_ _) | (with_reducible refine Kd.C_drew ?_))); (case side4 => exact HC1_1.out); rintro e w21 ⟨rfl, hb⟩; have n0_ := Q4 (blk_below (g := gb233) (o := .cells #[.slice A0_0 l0_0.length c0_0, .slice A0_1 l0_1.length c0_1] 27 (0, 0)) (by (with_reducible repeat (first|refine Qa ?_ _|refine Qb ?_|refine Q7 ?_ _)); exact BK233.out) hb); have n1_ := Q4 (blk_below (g := gb234) (o := .cells #[.slice A1_0 l1_0.length c1_0, .slice A1_1 l1_1.length c1_1] 27 (0, 0)) (by (with_reducible repeat (first|refine Qa ?_ _|refine Qb ?_|refine Q7 ?_ _)); exact BK234.out) hb); have n2_ := Q4 (below_step (by repeat (first | (with_reducible first|exact HB.out|apply Q8|apply Q5|apply Q9|refine Q6 ?_ GE233.out|refine Q6 ?_ GE234.out)|exact HB.out)) hb); clear BK233; clear BK234; clear HB; have BK233 := n0_; have BK234 := n1_; have HB := n2_; clear n0_ n1_ n2_; (try clear hb); (try clear hb2); (try clear hk); (try clear hi)))
    go_meet
    case rel => exact ⟨_, (true), (by first | rfl | (simp; done) | (simp [*]; done)), H', ⟨by first | omega|exact Nat.le_refl _⟩, ⟨by (with_reducible repeat (first|refine Qa ?_ _|refine Qb ?_|refine Q7 ?_ _)); exact BK233.out⟩, ⟨by (with_reducible repeat (first|refine Qa ?_ _|refine Qb ?_|refine Q7 ?_ _)); exact BK234.out⟩, ⟨by repeat (first | (with_reducible first|exact HB.out|apply Q8|apply Q5|apply Q9|refine Q6 ?_ GE233.out|refine Q6 ?_ GE234.out)|exact HB.out)⟩⟩
  ·replace c9 := Bool.eq_false_iff.mpr c9
   subst c9
   have H1 : (curtilagelaw05_InternDoes.j0 k l2 a3 true l0_0 l0_1 l1_0 l1_1) = some true := by rw [if_neg (show ¬ (false = true) by decide)] at H; exact H
   clear H
   have H := H1
   clear H1
   have H' := Q4 H
   clear H
   have hnb22 := NB233_234.out
   have hnc22 := NB234_233.out
   have hcz23_0 : w7.cell? ⟨gb233, 0, none⟩ = some (.slice A0_0 l0_0.length c0_0) := (blk_cell BK233.out 0).trans rfl
   have hcz23_1 : w7.cell? ⟨gb233, 1, none⟩ = some (.slice A0_1 l0_1.length c0_1) := (blk_cell BK233.out 1).trans rfl
   have hfz23_0 := blk_frozen BK233.out 0
   have hfz23_1 := blk_frozen BK233.out 1
   go_wp2_with (first | ((with_reducible refine gate_callee (f := 11) rfl ?_); refine goesL_ (some 28) rfl rfl Try.func11 (by kernel_rfl) rfl #[.agg #[.slice A0_0 l0_0.length c0_0, .slice A0_1 l0_1.length c0_1]] rfl (by (try simp only [List.map_toArray, List.map_cons, List.map_nil]); first | done | rfl | (simp only [List.length_drop, List.length_take]; rfl)) ?_; (with_reducible refine (curtilagelaw05_few.calls k _ _ l0_0 _ _ l0_1 false _ ?side1 ?side2 ?side3 ?side4 A8.out).mono ?_); (case side1 => repeat (first|exact (Kd.C_below HR0_0.out HB.out) | (with_reducible refine Kd.C_alloc ?_ _) | (with_reducible refine Kd.C_drewN ?_ _) | (with_reducible refine Kd.C_drew ?_))); (case side2 => exact HC0_0.out); (case side3 => repeat (first|exact (Kd.C_below HR0_1.out HB.out) | (with_reducible refine Kd.C_alloc ?_ _) | (with_reducible refine Kd.C_drewN ?_ _) | (with_reducible refine Kd.C_drew ?_))); (case side4 => exact HC0_1.out); rintro e w24 ⟨rfl, hb⟩; refine ⟨_, rfl, ?_⟩; have n0_ := Q4 (blk_below (g := gb233) (o := .cells #[.slice A0_0 l0_0.length c0_0, .slice A0_1 l0_1.length c0_1] 27 (0, 0)) (by (with_reducible repeat (first|refine Qa ?_ _|refine Qb ?_|refine Q7 ?_ _)); exact BK233.out) hb); have n1_ := Q4 (blk_below (g := gb234) (o := .cells #[.slice A1_0 l1_0.length c1_0, .slice A1_1 l1_1.length c1_1] 27 (0, 0)) (by (with_reducible repeat (first|refine Qa ?_ _|refine Qb ?_|refine Q7 ?_ _)); exact BK234.out) hb); have n2_ := Q4 (below_step (by repeat (first | (with_reducible first|exact HB.out|apply Q8|apply Q5|apply Q9|refine Q6 ?_ GE233.out|refine Q6 ?_ GE234.out)|exact HB.out)) hb); clear BK233; clear BK234; clear HB; have BK233 := n0_; have BK234 := n1_; have HB := n2_; clear n0_ n1_ n2_; (try clear hb); (try clear hb2); (try clear hk); (try clear hi)))
   go_meet
   case rel => exact ⟨_, (true), (by first | rfl | (simp; done) | (simp [*]; done)), H', ⟨by first | omega|exact Nat.le_refl _⟩, ⟨by (with_reducible repeat (first|refine Qa ?_ _|refine Qb ?_|refine Q7 ?_ _)); exact BK233.out⟩, ⟨by (with_reducible repeat (first|refine Qa ?_ _|refine Qb ?_|refine Q7 ?_ _)); exact BK234.out⟩, ⟨by repeat (first | (with_reducible first|exact HB.out|apply Q8|apply Q5|apply Q9|refine Q6 ?_ GE233.out|refine Q6 ?_ GE234.out)|exact HB.out)⟩⟩
 case rest =>
  clear HC5
  obtain ⟨kq, x39_4, rfl, HA, HJ4, BK233, BK234, HB⟩ := hcut
  cases kq with
  | zero => exact absurd HA.out (by simp [curtilagelaw05_InternDoes.j0])
  | succ kj4 =>
   have H := HA.out
   clear HA
   simp only [curtilagelaw05_InternDoes.j0] at H
   by_cases c25 : x39_4 = true
   ·subst c25
    have H1 : ((curtilagelaw05_awake.f kj4).bind fun t237 => (some t237)) = some true := by rw [if_pos rfl] at H; exact H
    clear H
    have H := H1
    clear H1
    replace H := Option.bind_eq_some_iff.mp H
    obtain ⟨t237, A260, H⟩ := H
    replace H : (some t237) = some true := H
    have A26 := Q4 A260
    clear A260
    obtain rfl := Option.some.inj H
    go_wp2_with (first | ((with_reducible refine gate_callee (f := 6) rfl ?_); refine goesL_ (some 40) rfl rfl Try.func6 (by kernel_rfl) rfl #[] rfl (by (try simp only [List.map_toArray, List.map_cons, List.map_nil]); first | done | rfl | (simp only [List.length_drop, List.length_take]; rfl)) ?_; (with_reducible refine (curtilagelaw05_awake.calls kj4  true _ A26.out).mono ?_); rintro e w27 ⟨rfl, hb⟩; refine ⟨_, rfl, ?_⟩; have n0_ := Q4 (blk_below (g := gb233) (o := .cells #[.slice A0_0 l0_0.length c0_0, .slice A0_1 l0_1.length c0_1] 27 (0, 0)) (by (with_reducible repeat (first|refine Qa ?_ _|refine Qb ?_|refine Q7 ?_ _)); exact BK233.out) hb); have n1_ := Q4 (blk_below (g := gb234) (o := .cells #[.slice A1_0 l1_0.length c1_0, .slice A1_1 l1_1.length c1_1] 27 (0, 0)) (by (with_reducible repeat (first|refine Qa ?_ _|refine Qb ?_|refine Q7 ?_ _)); exact BK234.out) hb); have n2_ := Q4 (below_step (by repeat (first | (with_reducible first|exact HB.out|apply Q8|apply Q5|apply Q9|refine Q6 ?_ GE233.out|refine Q6 ?_ GE234.out)|exact HB.out)) hb); clear BK233; clear BK234; clear HB; have BK233 := n0_; have BK234 := n1_; have HB := n2_; clear n0_ n1_ n2_; (try clear hb); (try clear hb2); (try clear hk); (try clear hi)))
    go_ret
    exact ⟨by first | rfl | (simp [errW_none, errW_some] <;> rfl) | (simp [*, errW_none, errW_some] <;> rfl), by repeat (first | (with_reducible first|exact HB.out|apply Q8|apply Q5|apply Q9|refine Q6 ?_ GE233.out|refine Q6 ?_ GE234.out)|exact HB.out)⟩
   ·replace c25 := Bool.eq_false_iff.mpr c25
    subst c25
    have H1 : ((intern_Fit.f kj4 l0_0 l0_1).bind fun t238 => ((curtilageref05_Fit.f kj4 l0_0 l0_1).bind fun t239 => (if (t238 != t239) = true then (curtilagelaw05_InternDoes.j1 kj4 l2 a3 true l0_0 l0_1) else ((intern_Same.f l0_0 l0_1 l1_0 l1_1).bind fun t240 => ((curtilageref05_Same.f kj4 l0_0 l0_1 l1_0 l1_1).bind fun t241 => (if (t240 != t241) = true then (curtilagelaw05_InternDoes.j1 kj4 l2 a3 true l0_0 l0_1) else ((intern_Same.f l0_0 l0_1 l0_0 l0_1).bind fun t242 => (curtilagelaw05_InternDoes.j1 kj4 l2 a3 (!t242) l0_0 l0_1)))))))) = some true := by rw [if_neg (show ¬ (false = true) by decide)] at H; exact H
    clear H
    have H := H1
    clear H1
    have HC28 := Q4 H
    clear H
    go_upto_region 3 with (fail)
    go_cut [60] (fun v60 wc => ∃ (kq : Nat) (x60_27 : Bool), v60 = .bool x60_27 ∧ Aside0 (curtilagelaw05_InternDoes.j1 kq l2 a3 x60_27 l0_0 l0_1 = some true) ∧ Aside0 (kq ≤ kj4) ∧ Aside0 (wc.heap[gb233]? = some (.cells #[(.slice A0_0 l0_0.length c0_0), (.slice A0_1 l0_1.length c0_1)] 27 (0, 0))) ∧ Aside0 (wc.heap[gb234]? = some (.cells #[(.slice A1_0 l1_0.length c1_0), (.slice A1_1 l1_1.length c1_1)] 27 (0, 0))) ∧ Aside0 (Below w.heap.size w wc))
    case first =>
     have H := HC28.out
     clear HC28
     replace H := Option.bind_eq_some_iff.mp H
     obtain ⟨t238, A290, H⟩ := H
     replace H : ((curtilageref05_Fit.f kj4 l0_0 l0_1).bind fun t239 => (if (t238 != t239) = true then (curtilagelaw05_InternDoes.j1 kj4 l2 a3 true l0_0 l0_1) else ((intern_Same.f l0_0 l0_1 l1_0 l1_1).bind fun t240 => ((curtilageref05_Same.f kj4 l0_0 l0_1 l1_0 l1_1).bind fun t241 => (if (t240 != t241) = true then (curtilagelaw05_InternDoes.j1 kj4 l2 a3 true l0_0 l0_1) else ((intern_Same.f l0_0 l0_1 l0_0 l0_1).bind fun t242 => (curtilagelaw05_InternDoes.j1 kj4 l2 a3 (!t242) l0_0 l0_1))))))) = some true := H
     have A29 := Q4 A290
     clear A290
     replace H := Option.bind_eq_some_iff.mp H
     obtain ⟨t239, A300, H⟩ := H
     replace H : (if (t238 != t239) = true then (curtilagelaw05_InternDoes.j1 kj4 l2 a3 true l0_0 l0_1) else ((intern_Same.f l0_0 l0_1 l1_0 l1_1).bind fun t240 => ((curtilageref05_Same.f kj4 l0_0 l0_1 l1_0 l1_1).bind fun t241 => (if (t240 != t241) = true then (curtilagelaw05_InternDoes.j1 kj4 l2 a3 true l0_0 l0_1) else ((intern_Same.f l0_0 l0_1 l0_0 l0_1).bind fun t242 => (curtilagelaw05_InternDoes.j1 kj4 l2 a3 (!t242) l0_0 l0_1)))))) = some true := H
     have A30 := Q4 A300
     clear A300
     by_cases c31 : (t238 != t239) = true
     ·rw [if_pos c31] at H
      have c31b0 : (t238 != t239) = true := c31
      (try (have c31b1 : decide (t238 = t239) = false := by simpa using c31))
      (try (have c31b2 : (t238 == t239) = false := by simpa using c31))
      (try (have c31b3 : ¬ (t238 = t239) := by simpa using c31))
      clear c31
      (first | rw [c31b0] | (simp only [i64_w, i32_w]; rw [c31b0]) | skip)
      exact absurd H (by first | decide|exact curtilagelaw05_InternDoes.j1_dead _ _ _ _ _)
     ·rw [if_neg c31] at H
      have c31b0 : (t238 != t239) = false := by simpa using c31
      (try (have c31b1 : decide (t238 = t239) = true := by simpa using c31))
      (try (have c31b2 : (t238 == t239) = true := by simpa using c31))
      clear c31
      (first | rw [c31b0] | (simp only [i64_w, i32_w]; rw [c31b0]) | skip)
      replace H := Option.bind_eq_some_iff.mp H
      obtain ⟨t240, A350, H⟩ := H
      replace H : ((curtilageref05_Same.f kj4 l0_0 l0_1 l1_0 l1_1).bind fun t241 => (if (t240 != t241) = true then (curtilagelaw05_InternDoes.j1 kj4 l2 a3 true l0_0 l0_1) else ((intern_Same.f l0_0 l0_1 l0_0 l0_1).bind fun t242 => (curtilagelaw05_InternDoes.j1 kj4 l2 a3 (!t242) l0_0 l0_1)))) = some true := H
      have A35 := Q4 A350
      clear A350
      replace H := Option.bind_eq_some_iff.mp H
      obtain ⟨t241, A360, H⟩ := H
      replace H : (if (t240 != t241) = true then (curtilagelaw05_InternDoes.j1 kj4 l2 a3 true l0_0 l0_1) else ((intern_Same.f l0_0 l0_1 l0_0 l0_1).bind fun t242 => (curtilagelaw05_InternDoes.j1 kj4 l2 a3 (!t242) l0_0 l0_1))) = some true := H
      have A36 := Q4 A360
      clear A360
      by_cases c37 : (t240 != t241) = true
      ·rw [if_pos c37] at H
       have c37b0 : (t240 != t241) = true := c37
       (try (have c37b1 : decide (t240 = t241) = false := by simpa using c37))
       (try (have c37b2 : (t240 == t241) = false := by simpa using c37))
       (try (have c37b3 : ¬ (t240 = t241) := by simpa using c37))
       clear c37
       exact absurd H (by first | decide|exact curtilagelaw05_InternDoes.j1_dead _ _ _ _ _)
      ·rw [if_neg c37] at H
       have c37b0 : (t240 != t241) = false := by simpa using c37
       (try (have c37b1 : decide (t240 = t241) = true := by simpa using c37))
       (try (have c37b2 : (t240 == t241) = true := by simpa using c37))
       clear c37
       replace H := Option.bind_eq_some_iff.mp H
       obtain ⟨t242, A430, H⟩ := H
       replace H : (curtilagelaw05_InternDoes.j1 kj4 l2 a3 (!t242) l0_0 l0_1) = some true := H
       have A43 := Q4 A430
       clear A430
       have H' := Q4 H
       clear H
       try go_wp2
       have n0_ := Q4 (Qb BK233.out)
       have n1_ := Q4 (Qb BK234.out)
       have n2_ := Q4 (Q9 HB.out)
       clear BK233
       clear BK234
       clear HB
       have BK233 := n0_
       have BK234 := n1_
       have HB := n2_
       clear n0_ n1_ n2_
       refine start_ (n := 20) (S := fun w' => w'.cell? ⟨gb233, 0, none⟩ = some (.slice A0_0 l0_0.length c0_0) ∧ w'.cell? ⟨gb233, 1, none⟩ = some (.slice A0_1 l0_1.length c0_1) ∧ w'.cell? ⟨gb234, 0, none⟩ = some (.slice A1_0 l1_0.length c1_0) ∧ w'.cell? ⟨gb234, 1, none⟩ = some (.slice A1_1 l1_1.length c1_1)) (ds := []) #[false,false,false,false,false,false,false,false,false,false,false,false,false,false,false,false,false,false,false,false] (by kernel_rfl) rfl rfl ⟨(blk_cell BK233.out 0).trans rfl, (blk_cell BK233.out 1).trans rfl, (blk_cell BK234.out 0).trans rfl, (blk_cell BK234.out 1).trans rfl⟩ (fun hHeld => ?_); refine with_tabW curtilagelaw05_InternDoes.tab3 curtilagelaw05_InternDoes.bits3 (fun HT_ HW_ => ?_)
       generalize wc.drew = w44 at BK233 BK234 HB hHeld ⊢
       refine take_ (i := 0) (N := some 41) (v := ?_) (a' := ?_) #[true,false,false,false,false,false,false,false,false,false,false,false,false,false,false,false,false,false,false,false] rfl rfl (take_ofW HT_.out HW_.out (by kernel_rfl)) (fun _ _ _ h => h) (Or.inl ⟨by rfl, ?_⟩) hHeld ?_ ?_
       rotate_left
       ·rintro w' ⟨s0, s1, s2, s3⟩
        go_simp
        with_reducible rfl
       rotate_left
       ·simp only [Act.put, Q1,Q2,Q3, i64_w, i32_w]
        rfl
       refine take_ (i := 2) (N := some 43) (v := ?_) (a' := ?_) #[true,false,true,false,false,false,false,false,false,false,false,false,false,false,false,false,false,false,false,false] rfl rfl (take_ofW HT_.out HW_.out (by kernel_rfl)) (fun _ _ _ h => h) (Or.inl ⟨by rfl, ?_⟩) hHeld ?_ ?_
       rotate_left
       ·rintro w' ⟨s0, s1, s2, s3⟩
        go_simp
        with_reducible rfl
       rotate_left
       ·simp only [Act.put, Q1,Q2,Q3, i64_w, i32_w]
        rfl
       refine one_ (i := 1) (N := some 42) #[true,true,true,false,false,false,false,false,false,false,false,false,false,false,false,false,false,false,false,false] rfl rfl (one_of HT_.out (by kernel_rfl)) (by decide) (fun K hK => ?_)
       refine goes_ Try.func16 (by kernel_rfl) rfl #[.agg #[.slice A0_0 l0_0.length c0_0, .slice A0_1 l0_1.length c0_1]] (by rfl) rfl rfl (by (try simp only [List.map_toArray, List.map_cons, List.map_nil]); first | done | rfl | (simp only [List.length_drop, List.length_take]; rfl)) ?_
       with_reducible refine (intern_Fit.calls kj4 _ _ l0_0 _ _ l0_1 t238 _ ?side1 ?side2 ?side3 ?side4 A29.out).mono ?_
       (case side1 => repeat (first|exact (Kd.C_below HR0_0.out HB.out) | (with_reducible refine Kd.C_alloc ?_ _) | (with_reducible refine Kd.C_drewN ?_ _) | (with_reducible refine Kd.C_drew ?_)))
       (case side2 => exact HC0_0.out)
       (case side3 => repeat (first|exact (Kd.C_below HR0_1.out HB.out) | (with_reducible refine Kd.C_alloc ?_ _) | (with_reducible refine Kd.C_drewN ?_ _) | (with_reducible refine Kd.C_drew ?_)))
       (case side4 => exact HC0_1.out)
       rintro e w45 ⟨rfl, hb⟩
       refine ⟨_, rfl, ?_⟩
       have n0_ := Q4 (blk_below (g := gb233) (o := .cells #[.slice A0_0 l0_0.length c0_0, .slice A0_1 l0_1.length c0_1] 27 (0, 0)) (by (with_reducible repeat (first|refine Qa ?_ _|refine Qb ?_|refine Q7 ?_ _)); exact BK233.out) hb)
       have n1_ := Q4 (blk_below (g := gb234) (o := .cells #[.slice A1_0 l1_0.length c1_0, .slice A1_1 l1_1.length c1_1] 27 (0, 0)) (by (with_reducible repeat (first|refine Qa ?_ _|refine Qb ?_|refine Q7 ?_ _)); exact BK234.out) hb)
       have n2_ := Q4 (below_step (by repeat (first | (with_reducible first|exact HB.out|apply Q8|apply Q5|apply Q9|refine Q6 ?_ GE233.out|refine Q6 ?_ GE234.out)|exact HB.out)) hb)
       clear BK233
       clear BK234
       clear HB
       have BK233 := n0_
       have BK234 := n1_
       have HB := n2_
       clear n0_ n1_ n2_
       refine hK.out _ _ ⟨(blk_cell BK233.out 0).trans rfl, (blk_cell BK233.out 1).trans rfl, (blk_cell BK234.out 0).trans rfl, (blk_cell BK234.out 1).trans rfl⟩ (fun hHeld => ?_)
       clear hK K
       refine norm_ (a' := ?_) ?_ ?_
       rotate_left
       ·show Act.put _ (some 42) _ = _
        simp only [Act.put, Q1,Q2,Q3, i64_w, i32_w]
        rfl
       refine one_ (i := 3) (N := some 44) #[true,true,true,true,false,false,false,false,false,false,false,false,false,false,false,false,false,false,false,false] rfl rfl (one_of HT_.out (by kernel_rfl)) (by decide) (fun K hK => ?_)
       refine goes_ Try.func12 (by kernel_rfl) rfl #[.agg #[.slice A0_0 l0_0.length c0_0, .slice A0_1 l0_1.length c0_1]] (by rfl) rfl rfl (by (try simp only [List.map_toArray, List.map_cons, List.map_nil]); first | done | rfl | (simp only [List.length_drop, List.length_take]; rfl)) ?_
       with_reducible refine (curtilageref05_Fit.calls kj4 _ _ l0_0 _ _ l0_1 t239 _ ?side1 ?side2 ?side3 ?side4 A30.out).mono ?_
       (case side1 => repeat (first|exact (Kd.C_below HR0_0.out HB.out) | (with_reducible refine Kd.C_alloc ?_ _) | (with_reducible refine Kd.C_drewN ?_ _) | (with_reducible refine Kd.C_drew ?_)))
       (case side2 => exact HC0_0.out)
       (case side3 => repeat (first|exact (Kd.C_below HR0_1.out HB.out) | (with_reducible refine Kd.C_alloc ?_ _) | (with_reducible refine Kd.C_drewN ?_ _) | (with_reducible refine Kd.C_drew ?_)))
       (case side4 => exact HC0_1.out)
       rintro e w46 ⟨rfl, hb⟩
       refine ⟨_, rfl, ?_⟩
       have n0_ := Q4 (blk_below (g := gb233) (o := .cells #[.slice A0_0 l0_0.length c0_0, .slice A0_1 l0_1.length c0_1] 27 (0, 0)) (by (with_reducible repeat (first|refine Qa ?_ _|refine Qb ?_|refine Q7 ?_ _)); exact BK233.out) hb)
       have n1_ := Q4 (blk_below (g := gb234) (o := .cells #[.slice A1_0 l1_0.length c1_0, .slice A1_1 l1_1.length c1_1] 27 (0, 0)) (by (with_reducible repeat (first|refine Qa ?_ _|refine Qb ?_|refine Q7 ?_ _)); exact BK234.out) hb)
       have n2_ := Q4 (below_step (by repeat (first | (with_reducible first|exact HB.out|apply Q8|apply Q5|apply Q9|refine Q6 ?_ GE233.out|refine Q6 ?_ GE234.out)|exact HB.out)) hb)
       clear BK233
       clear BK234
       clear HB
       have BK233 := n0_
       have BK234 := n1_
       have HB := n2_
       clear n0_ n1_ n2_
       refine hK.out _ _ ⟨(blk_cell BK233.out 0).trans rfl, (blk_cell BK233.out 1).trans rfl, (blk_cell BK234.out 0).trans rfl, (blk_cell BK234.out 1).trans rfl⟩ (fun hHeld => ?_)
       clear hK K
       refine norm_ (a' := ?_) ?_ ?_
       rotate_left
       ·show Act.put _ (some 44) _ = _
        simp only [Act.put, Q1,Q2,Q3, i64_w, i32_w]
        rfl
       refine pure_ (i := 4) (N := some 45) (v := ?_) (a' := ?_) #[true,true,true,true,true,false,false,false,false,false,false,false,false,false,false,false,false,false,false,false] rfl rfl (any_of HT_.out (by kernel_rfl)) (fun _ _ _ h => h) (Or.inl ⟨by rfl, ?_⟩) ?_ ?_
       rotate_left
       ·intro w'
        go_simp
        with_reducible rfl
       rotate_left
       ·simp only [Act.put, Q1,Q2,Q3, i64_w, i32_w]
        rfl
       refine pure_ (i := 5) (N := some 46) (v := ?_) (a' := ?_) #[true,true,true,true,true,true,false,false,false,false,false,false,false,false,false,false,false,false,false,false] rfl rfl (any_of HT_.out (by kernel_rfl)) (fun _ _ _ h => h) (Or.inl ⟨by rfl, ?_⟩) ?_ ?_
       rotate_left
       ·intro w'
        go_simp
        with_reducible rfl
       rotate_left
       ·simp only [Act.put, Q1,Q2,Q3, i64_w, i32_w]
        rfl
       refine take_ (i := 6) (N := some 47) (v := ?_) (a' := ?_) #[true,true,true,true,true,true,true,false,false,false,false,false,false,false,false,false,false,false,false,false] rfl rfl (take_ofW HT_.out HW_.out (by kernel_rfl)) (fun _ _ _ h => h) (Or.inl ⟨by rfl, ?_⟩) hHeld ?_ ?_
       rotate_left
       ·rintro w' ⟨s0, s1, s2, s3⟩
        go_simp
        with_reducible rfl
       rotate_left
       ·simp only [Act.put, Q1,Q2,Q3, i64_w, i32_w]
        rfl
       refine take_ (i := 7) (N := some 48) (v := ?_) (a' := ?_) #[true,true,true,true,true,true,true,true,false,false,false,false,false,false,false,false,false,false,false,false] rfl rfl (take_ofW HT_.out HW_.out (by kernel_rfl)) (fun _ _ _ h => h) (Or.inl ⟨by rfl, ?_⟩) hHeld ?_ ?_
       rotate_left
       ·rintro w' ⟨s0, s1, s2, s3⟩
        go_simp
        with_reducible rfl
       rotate_left
       ·simp only [Act.put, Q1,Q2,Q3, i64_w, i32_w]
        rfl
       refine take_ (i := 9) (N := some 50) (v := ?_) (a' := ?_) #[true,true,true,true,true,true,true,true,false,true,false,false,false,false,false,false,false,false,false,false] rfl rfl (take_ofW HT_.out HW_.out (by kernel_rfl)) (fun _ _ _ h => h) (Or.inl ⟨by rfl, ?_⟩) hHeld ?_ ?_
       rotate_left
       ·rintro w' ⟨s0, s1, s2, s3⟩
        go_simp
        with_reducible rfl
       rotate_left
       ·simp only [Act.put, Q1,Q2,Q3, i64_w, i32_w]
        rfl
       refine take_ (i := 10) (N := some 51) (v := ?_) (a' := ?_) #[true,true,true,true,true,true,true,true,false,true,true,false,false,false,false,false,false,false,false,false] rfl rfl (take_ofW HT_.out HW_.out (by kernel_rfl)) (fun _ _ _ h => h) (Or.inl ⟨by rfl, ?_⟩) hHeld ?_ ?_
       rotate_left
       ·rintro w' ⟨s0, s1, s2, s3⟩
        go_simp
        with_reducible rfl
       rotate_left
       ·simp only [Act.put, Q1,Q2,Q3, i64_w, i32_w]
        rfl
       refine one_ (i := 8) (N := some 49) #[true,true,true,true,true,true,true,true,true,true,true,false,false,false,false,false,false,false,false,false] rfl rfl (one_of HT_.out (by kernel_rfl)) (by decide) (fun K hK => ?_)
       refine goes_ Try.func15 (by kernel_rfl) rfl #[.agg #[.slice A0_0 l0_0.length c0_0, .slice A0_1 l0_1.length c0_1], .agg #[.slice A1_0 l1_0.length c1_0, .slice A1_1 l1_1.length c1_1]] (by rfl) rfl rfl (by (try simp only [List.map_toArray, List.map_cons, List.map_nil]); first | done | rfl | (simp only [List.length_drop, List.length_take]; rfl)) ?_
       with_reducible refine (intern_Same.calls _ _ l0_0 _ _ l0_1 _ _ l1_0 _ _ l1_1 t240 _ ?side1 ?side2 ?side3 ?side4 ?side5 ?side6 ?side7 ?side8 A35.out).mono ?_
       (case side1 => repeat (first|exact (Kd.C_below HR0_0.out HB.out) | (with_reducible refine Kd.C_alloc ?_ _) | (with_reducible refine Kd.C_drewN ?_ _) | (with_reducible refine Kd.C_drew ?_)))
       (case side2 => exact HC0_0.out)
       (case side3 => repeat (first|exact (Kd.C_below HR0_1.out HB.out) | (with_reducible refine Kd.C_alloc ?_ _) | (with_reducible refine Kd.C_drewN ?_ _) | (with_reducible refine Kd.C_drew ?_)))
       (case side4 => exact HC0_1.out)
       (case side5 => repeat (first|exact (Kd.C_below HR1_0.out HB.out) | (with_reducible refine Kd.C_alloc ?_ _) | (with_reducible refine Kd.C_drewN ?_ _) | (with_reducible refine Kd.C_drew ?_)))
       (case side6 => exact HC1_0.out)
       (case side7 => repeat (first|exact (Kd.C_below HR1_1.out HB.out) | (with_reducible refine Kd.C_alloc ?_ _) | (with_reducible refine Kd.C_drewN ?_ _) | (with_reducible refine Kd.C_drew ?_)))
       (case side8 => exact HC1_1.out)
       rintro e w47 ⟨rfl, hb⟩
       refine ⟨_, rfl, ?_⟩
       have n0_ := Q4 (blk_below (g := gb233) (o := .cells #[.slice A0_0 l0_0.length c0_0, .slice A0_1 l0_1.length c0_1] 27 (0, 0)) (by (with_reducible repeat (first|refine Qa ?_ _|refine Qb ?_|refine Q7 ?_ _)); exact BK233.out) hb)
       have n1_ := Q4 (blk_below (g := gb234) (o := .cells #[.slice A1_0 l1_0.length c1_0, .slice A1_1 l1_1.length c1_1] 27 (0, 0)) (by (with_reducible repeat (first|refine Qa ?_ _|refine Qb ?_|refine Q7 ?_ _)); exact BK234.out) hb)
       have n2_ := Q4 (below_step (by repeat (first | (with_reducible first|exact HB.out|apply Q8|apply Q5|apply Q9|refine Q6 ?_ GE233.out|refine Q6 ?_ GE234.out)|exact HB.out)) hb)
       clear BK233
       clear BK234
       clear HB
       have BK233 := n0_
       have BK234 := n1_
       have HB := n2_
       clear n0_ n1_ n2_
       refine hK.out _ _ ⟨(blk_cell BK233.out 0).trans rfl, (blk_cell BK233.out 1).trans rfl, (blk_cell BK234.out 0).trans rfl, (blk_cell BK234.out 1).trans rfl⟩ (fun hHeld => ?_)
       clear hK K
       refine norm_ (a' := ?_) ?_ ?_
       rotate_left
       ·show Act.put _ (some 49) _ = _
        simp only [Act.put, Q1,Q2,Q3, i64_w, i32_w]
        rfl
       refine one_ (i := 11) (N := some 52) #[true,true,true,true,true,true,true,true,true,true,true,true,false,false,false,false,false,false,false,false] rfl rfl (one_of HT_.out (by kernel_rfl)) (by decide) (fun K hK => ?_)
       refine goes_ Try.func17 (by kernel_rfl) rfl #[.agg #[.slice A0_0 l0_0.length c0_0, .slice A0_1 l0_1.length c0_1], .agg #[.slice A1_0 l1_0.length c1_0, .slice A1_1 l1_1.length c1_1]] (by rfl) rfl rfl (by (try simp only [List.map_toArray, List.map_cons, List.map_nil]); first | done | rfl | (simp only [List.length_drop, List.length_take]; rfl)) ?_
       with_reducible refine (curtilageref05_Same.calls kj4 _ _ l0_0 _ _ l0_1 _ _ l1_0 _ _ l1_1 t241 _ ?side1 ?side2 ?side3 ?side4 ?side5 ?side6 ?side7 ?side8 A36.out).mono ?_
       (case side1 => repeat (first|exact (Kd.C_below HR0_0.out HB.out) | (with_reducible refine Kd.C_alloc ?_ _) | (with_reducible refine Kd.C_drewN ?_ _) | (with_reducible refine Kd.C_drew ?_)))
       (case side2 => exact HC0_0.out)
       (case side3 => repeat (first|exact (Kd.C_below HR0_1.out HB.out) | (with_reducible refine Kd.C_alloc ?_ _) | (with_reducible refine Kd.C_drewN ?_ _) | (with_reducible refine Kd.C_drew ?_)))
       (case side4 => exact HC0_1.out)
       (case side5 => repeat (first|exact (Kd.C_below HR1_0.out HB.out) | (with_reducible refine Kd.C_alloc ?_ _) | (with_reducible refine Kd.C_drewN ?_ _) | (with_reducible refine Kd.C_drew ?_)))
       (case side6 => exact HC1_0.out)
       (case side7 => repeat (first|exact (Kd.C_below HR1_1.out HB.out) | (with_reducible refine Kd.C_alloc ?_ _) | (with_reducible refine Kd.C_drewN ?_ _) | (with_reducible refine Kd.C_drew ?_)))
       (case side8 => exact HC1_1.out)
       rintro e w48 ⟨rfl, hb⟩
       refine ⟨_, rfl, ?_⟩
       have n0_ := Q4 (blk_below (g := gb233) (o := .cells #[.slice A0_0 l0_0.length c0_0, .slice A0_1 l0_1.length c0_1] 27 (0, 0)) (by (with_reducible repeat (first|refine Qa ?_ _|refine Qb ?_|refine Q7 ?_ _)); exact BK233.out) hb)
       have n1_ := Q4 (blk_below (g := gb234) (o := .cells #[.slice A1_0 l1_0.length c1_0, .slice A1_1 l1_1.length c1_1] 27 (0, 0)) (by (with_reducible repeat (first|refine Qa ?_ _|refine Qb ?_|refine Q7 ?_ _)); exact BK234.out) hb)
       have n2_ := Q4 (below_step (by repeat (first | (with_reducible first|exact HB.out|apply Q8|apply Q5|apply Q9|refine Q6 ?_ GE233.out|refine Q6 ?_ GE234.out)|exact HB.out)) hb)
       clear BK233
       clear BK234
       clear HB
       have BK233 := n0_
       have BK234 := n1_
       have HB := n2_
       clear n0_ n1_ n2_
       refine hK.out _ _ ⟨(blk_cell BK233.out 0).trans rfl, (blk_cell BK233.out 1).trans rfl, (blk_cell BK234.out 0).trans rfl, (blk_cell BK234.out 1).trans rfl⟩ (fun hHeld => ?_)
       clear hK K
       refine norm_ (a' := ?_) ?_ ?_
       rotate_left
       ·show Act.put _ (some 52) _ = _
        simp only [Act.put, Q1,Q2,Q3, i64_w, i32_w]
        rfl
       refine pure_ (i := 12) (N := some 53) (v := ?_) (a' := ?_) #[true,true,true,true,true,true,true,true,true,true,true,true,true,false,false,false,false,false,false,false] rfl rfl (any_of HT_.out (by kernel_rfl)) (fun _ _ _ h => h) (Or.inl ⟨by rfl, ?_⟩) ?_ ?_
       rotate_left
       ·intro w'
        go_simp
        with_reducible rfl
       rotate_left
       ·simp only [Act.put, Q1,Q2,Q3, i64_w, i32_w]
        rfl
       refine pure_ (i := 13) (N := some 54) (v := ?_) (a' := ?_) #[true,true,true,true,true,true,true,true,true,true,true,true,true,true,false,false,false,false,false,false] rfl rfl (any_of HT_.out (by kernel_rfl)) (fun _ _ _ h => h) (Or.inl ⟨by rfl, ?_⟩) ?_ ?_
       rotate_left
       ·intro w'
        go_simp
        with_reducible rfl
       rotate_left
       ·simp only [Act.put, Q1,Q2,Q3, i64_w, i32_w]
        rfl
       refine pure_ (i := 14) (N := some 55) (v := ?_) (a' := ?_) #[true,true,true,true,true,true,true,true,true,true,true,true,true,true,true,false,false,false,false,false] rfl rfl (any_of HT_.out (by kernel_rfl)) (fun _ _ _ h => h) (Or.inl ⟨by rfl, ?_⟩) ?_ ?_
       rotate_left
       ·intro w'
        go_simp
        with_reducible rfl
       rotate_left
       ·simp only [Act.put, Q1,Q2,Q3, i64_w, i32_w]
        rfl
       refine take_ (i := 15) (N := some 56) (v := ?_) (a' := ?_) #[true,true,true,true,true,true,true,true,true,true,true,true,true,true,true,true,false,false,false,false] rfl rfl (take_ofW HT_.out HW_.out (by kernel_rfl)) (fun _ _ _ h => h) (Or.inl ⟨by rfl, ?_⟩) hHeld ?_ ?_
       rotate_left
       ·rintro w' ⟨s0, s1, s2, s3⟩
        go_simp
        with_reducible rfl
       rotate_left
       ·simp only [Act.put, Q1,Q2,Q3, i64_w, i32_w]
        rfl
       refine take_ (i := 16) (N := some 57) (v := ?_) (a' := ?_) #[true,true,true,true,true,true,true,true,true,true,true,true,true,true,true,true,true,false,false,false] rfl rfl (take_ofW HT_.out HW_.out (by kernel_rfl)) (fun _ _ _ h => h) (Or.inl ⟨by rfl, ?_⟩) hHeld ?_ ?_
       rotate_left
       ·rintro w' ⟨s0, s1, s2, s3⟩
        go_simp
        with_reducible rfl
       rotate_left
       ·simp only [Act.put, Q1,Q2,Q3, i64_w, i32_w]
        rfl
       refine one_ (i := 17) (N := some 58) #[true,true,true,true,true,true,true,true,true,true,true,true,true,true,true,true,true,true,false,false] rfl rfl (one_of HT_.out (by kernel_rfl)) (by decide) (fun K hK => ?_)
       refine goes_ Try.func15 (by kernel_rfl) rfl #[.agg #[.slice A0_0 l0_0.length c0_0, .slice A0_1 l0_1.length c0_1], .agg #[.slice A0_0 l0_0.length c0_0, .slice A0_1 l0_1.length c0_1]] (by rfl) rfl rfl (by (try simp only [List.map_toArray, List.map_cons, List.map_nil]); first | done | rfl | (simp only [List.length_drop, List.length_take]; rfl)) ?_
       with_reducible refine (intern_Same.calls _ _ l0_0 _ _ l0_1 _ _ l0_0 _ _ l0_1 t242 _ ?side1 ?side2 ?side3 ?side4 ?side5 ?side6 ?side7 ?side8 A43.out).mono ?_
       (case side1 => repeat (first|exact (Kd.C_below HR0_0.out HB.out) | (with_reducible refine Kd.C_alloc ?_ _) | (with_reducible refine Kd.C_drewN ?_ _) | (with_reducible refine Kd.C_drew ?_)))
       (case side2 => exact HC0_0.out)
       (case side3 => repeat (first|exact (Kd.C_below HR0_1.out HB.out) | (with_reducible refine Kd.C_alloc ?_ _) | (with_reducible refine Kd.C_drewN ?_ _) | (with_reducible refine Kd.C_drew ?_)))
       (case side4 => exact HC0_1.out)
       (case side5 => repeat (first|exact (Kd.C_below HR0_0.out HB.out) | (with_reducible refine Kd.C_alloc ?_ _) | (with_reducible refine Kd.C_drewN ?_ _) | (with_reducible refine Kd.C_drew ?_)))
       (case side6 => exact HC0_0.out)
       (case side7 => repeat (first|exact (Kd.C_below HR0_1.out HB.out) | (with_reducible refine Kd.C_alloc ?_ _) | (with_reducible refine Kd.C_drewN ?_ _) | (with_reducible refine Kd.C_drew ?_)))
       (case side8 => exact HC0_1.out)
       rintro e w49 ⟨rfl, hb⟩
       refine ⟨_, rfl, ?_⟩
       have n0_ := Q4 (blk_below (g := gb233) (o := .cells #[.slice A0_0 l0_0.length c0_0, .slice A0_1 l0_1.length c0_1] 27 (0, 0)) (by (with_reducible repeat (first|refine Qa ?_ _|refine Qb ?_|refine Q7 ?_ _)); exact BK233.out) hb)
       have n1_ := Q4 (blk_below (g := gb234) (o := .cells #[.slice A1_0 l1_0.length c1_0, .slice A1_1 l1_1.length c1_1] 27 (0, 0)) (by (with_reducible repeat (first|refine Qa ?_ _|refine Qb ?_|refine Q7 ?_ _)); exact BK234.out) hb)
       have n2_ := Q4 (below_step (by repeat (first | (with_reducible first|exact HB.out|apply Q8|apply Q5|apply Q9|refine Q6 ?_ GE233.out|refine Q6 ?_ GE234.out)|exact HB.out)) hb)
       clear BK233
       clear BK234
       clear HB
       have BK233 := n0_
       have BK234 := n1_
       have HB := n2_
       clear n0_ n1_ n2_
       refine hK.out _ _ ⟨(blk_cell BK233.out 0).trans rfl, (blk_cell BK233.out 1).trans rfl, (blk_cell BK234.out 0).trans rfl, (blk_cell BK234.out 1).trans rfl⟩ (fun hHeld => ?_)
       clear hK K
       refine norm_ (a' := ?_) ?_ ?_
       rotate_left
       ·show Act.put _ (some 58) _ = _
        simp only [Act.put, Q1,Q2,Q3, i64_w, i32_w]
        rfl
       refine pure_ (i := 18) (N := some 59) (v := ?_) (a' := ?_) #[true,true,true,true,true,true,true,true,true,true,true,true,true,true,true,true,true,true,true,false] rfl rfl (any_of HT_.out (by kernel_rfl)) (fun _ _ _ h => h) (Or.inl ⟨by rfl, ?_⟩) ?_ ?_
       rotate_left
       ·intro w'
        go_simp
        with_reducible rfl
       rotate_left
       ·simp only [Act.put, Q1,Q2,Q3, i64_w, i32_w]
        rfl
       refine pure_ (i := 19) (N := some 60) (v := ?_) (a' := ?_) #[true,true,true,true,true,true,true,true,true,true,true,true,true,true,true,true,true,true,true,true] rfl rfl (any_of HT_.out (by kernel_rfl)) (fun _ _ _ h => h) (Or.inl ⟨by rfl, ?_⟩) ?_ ?_
       rotate_left
       ·intro w'
        go_simp
        with_reducible rfl
       rotate_left
       ·simp only [Act.put, Q1,Q2,Q3, i64_w, i32_w]
        rfl
       refine done_ (done_of HT_.out (by kernel_rfl)) ?_
       try go_wp2
       go_meet
       case rel => exact ⟨_, (!t242), (by first | rfl | (simp; done) | (simp [*]; done)), H', ⟨by have := HJ4.out; first | omega|exact Nat.le_refl _⟩, ⟨by (with_reducible repeat (first|refine Qa ?_ _|refine Qb ?_|refine Q7 ?_ _)); exact BK233.out⟩, ⟨by (with_reducible repeat (first|refine Qa ?_ _|refine Qb ?_|refine Q7 ?_ _)); exact BK234.out⟩, ⟨by repeat (first | (with_reducible first|exact HB.out|apply Q8|apply Q5|apply Q9|refine Q6 ?_ GE233.out|refine Q6 ?_ GE234.out)|exact HB.out)⟩⟩
    case rest =>
     clear HC28
     obtain ⟨kq, x60_27, rfl, HA, HJ27, BK233, BK234, HB⟩ := hcut
     cases kq with
     | zero => exact absurd HA.out (by simp [curtilagelaw05_InternDoes.j1])
     | succ kj27 =>
      have H := HA.out
      clear HA
      simp only [curtilagelaw05_InternDoes.j1] at H
      by_cases c50 : x60_27 = true
      ·subst c50
       have H1 : (some false) = some true := by rw [if_pos rfl] at H; exact H
       clear H
       have H := H1
       clear H1
       exact absurd H (by first | decide|exact curtilagelaw05_InternDoes.j1_dead _ _ _ _ _)
      ·replace c50 := Bool.eq_false_iff.mpr c50
       subst c50
       have H1 : ((curtilageref05_Fit.f kj27 l0_0 l0_1).bind fun t243 => (if t243 = true then ((intern_Add.f kj27 l0_0 l0_1 l2).bind fun bt245 => ((curtilageref05_Add.f kj27 l0_0 l0_1 l2).bind fun bt254 => ((intern_Drop.f l0_0 l0_1 a3).bind fun bt263 => ((curtilageref05_Drop.f kj27 l0_0 l0_1 a3).bind fun bt271 => ((intern_Get.f l0_0 l0_1 a3).bind fun bt279 => ((curtilageref05_Get.f l0_0 l0_1 a3).bind fun bt283 => ((intern_Find.f l0_0 l0_1 l2).bind fun bt287 => ((curtilageref05_Find.f kj27 l0_0 l0_1 l2).bind fun bt289 => ((curtilageref05_Same.f kj27 bt245.1 bt245.2.1 bt254.1 bt254.2.1).bind fun t291 => (if t291 = true then (if bt245.2.2.1 = bt254.2.2.1 then (if bt245.2.2.2 = bt254.2.2.2 then ((curtilageref05_Same.f kj27 bt263.1 bt263.2.1 bt271.1 bt271.2.1).bind fun t292 => (if t292 = true then (if bt263.2.2 = bt271.2.2 then ((curtilageref02_Same.f kj27 bt279.1 bt283.1).bind fun t293 => (if t293 = true then (if bt279.2 = bt283.2 then (if bt287.1 = bt289.1 then (if (bt287.2 == bt289.2) = true then ((intern_Used.f l0_0 l0_1).bind fun t294 => ((curtilageref05_Used.f kj27 l0_0 l0_1).bind fun t295 => (if t294 = t295 then ((curtilageref05_Fit.f kj27 bt245.1 bt245.2.1).bind fun t296 => (if t296 = true then ((curtilageref05_Fit.f kj27 bt263.1 bt263.2.1).bind fun t297 => (if t297 = true then ((curtilagelaw05_awake.f kj27).bind fun t298 => (some t298)) else (some false))) else (some false))) else (some false)))) else (some false)) else (some false)) else (some false)) else (some false))) else (some false)) else (some false))) else (some false)) else (some false)) else (some false))))))))))) else ((curtilagelaw05_awake.f kj27).bind fun t244 => (some t244)))) = some true := by rw [if_neg (show ¬ (false = true) by decide)] at H; exact H
       clear H
       have H := H1
       clear H1
       replace H := Option.bind_eq_some_iff.mp H
       obtain ⟨t243, A510, H⟩ := H
       replace H : (if t243 = true then ((intern_Add.f kj27 l0_0 l0_1 l2).bind fun bt245 => ((curtilageref05_Add.f kj27 l0_0 l0_1 l2).bind fun bt254 => ((intern_Drop.f l0_0 l0_1 a3).bind fun bt263 => ((curtilageref05_Drop.f kj27 l0_0 l0_1 a3).bind fun bt271 => ((intern_Get.f l0_0 l0_1 a3).bind fun bt279 => ((curtilageref05_Get.f l0_0 l0_1 a3).bind fun bt283 => ((intern_Find.f l0_0 l0_1 l2).bind fun bt287 => ((curtilageref05_Find.f kj27 l0_0 l0_1 l2).bind fun bt289 => ((curtilageref05_Same.f kj27 bt245.1 bt245.2.1 bt254.1 bt254.2.1).bind fun t291 => (if t291 = true then (if bt245.2.2.1 = bt254.2.2.1 then (if bt245.2.2.2 = bt254.2.2.2 then ((curtilageref05_Same.f kj27 bt263.1 bt263.2.1 bt271.1 bt271.2.1).bind fun t292 => (if t292 = true then (if bt263.2.2 = bt271.2.2 then ((curtilageref02_Same.f kj27 bt279.1 bt283.1).bind fun t293 => (if t293 = true then (if bt279.2 = bt283.2 then (if bt287.1 = bt289.1 then (if (bt287.2 == bt289.2) = true then ((intern_Used.f l0_0 l0_1).bind fun t294 => ((curtilageref05_Used.f kj27 l0_0 l0_1).bind fun t295 => (if t294 = t295 then ((curtilageref05_Fit.f kj27 bt245.1 bt245.2.1).bind fun t296 => (if t296 = true then ((curtilageref05_Fit.f kj27 bt263.1 bt263.2.1).bind fun t297 => (if t297 = true then ((curtilagelaw05_awake.f kj27).bind fun t298 => (some t298)) else (some false))) else (some false))) else (some false)))) else (some false)) else (some false)) else (some false)) else (some false))) else (some false)) else (some false))) else (some false)) else (some false)) else (some false))))))))))) else ((curtilagelaw05_awake.f kj27).bind fun t244 => (some t244))) = some true := H
       have A51 := Q4 A510
       clear A510
       by_cases c52 : t243 = true
       ·subst c52
        have H1 : ((intern_Add.f kj27 l0_0 l0_1 l2).bind fun bt245 => ((curtilageref05_Add.f kj27 l0_0 l0_1 l2).bind fun bt254 => ((intern_Drop.f l0_0 l0_1 a3).bind fun bt263 => ((curtilageref05_Drop.f kj27 l0_0 l0_1 a3).bind fun bt271 => ((intern_Get.f l0_0 l0_1 a3).bind fun bt279 => ((curtilageref05_Get.f l0_0 l0_1 a3).bind fun bt283 => ((intern_Find.f l0_0 l0_1 l2).bind fun bt287 => ((curtilageref05_Find.f kj27 l0_0 l0_1 l2).bind fun bt289 => ((curtilageref05_Same.f kj27 bt245.1 bt245.2.1 bt254.1 bt254.2.1).bind fun t291 => (if t291 = true then (if bt245.2.2.1 = bt254.2.2.1 then (if bt245.2.2.2 = bt254.2.2.2 then ((curtilageref05_Same.f kj27 bt263.1 bt263.2.1 bt271.1 bt271.2.1).bind fun t292 => (if t292 = true then (if bt263.2.2 = bt271.2.2 then ((curtilageref02_Same.f kj27 bt279.1 bt283.1).bind fun t293 => (if t293 = true then (if bt279.2 = bt283.2 then (if bt287.1 = bt289.1 then (if (bt287.2 == bt289.2) = true then ((intern_Used.f l0_0 l0_1).bind fun t294 => ((curtilageref05_Used.f kj27 l0_0 l0_1).bind fun t295 => (if t294 = t295 then ((curtilageref05_Fit.f kj27 bt245.1 bt245.2.1).bind fun t296 => (if t296 = true then ((curtilageref05_Fit.f kj27 bt263.1 bt263.2.1).bind fun t297 => (if t297 = true then ((curtilagelaw05_awake.f kj27).bind fun t298 => (some t298)) else (some false))) else (some false))) else (some false)))) else (some false)) else (some false)) else (some false)) else (some false))) else (some false)) else (some false))) else (some false)) else (some false)) else (some false))))))))))) = some true := by rw [if_pos rfl] at H; exact H
        clear H
        have H := H1
        clear H1
        replace H := Option.bind_eq_some_iff.mp H
        obtain ⟨⟨t245, t248, t251, t252⟩, A530, H⟩ := H
        replace H : ((curtilageref05_Add.f kj27 l0_0 l0_1 l2).bind fun bt254 => ((intern_Drop.f l0_0 l0_1 a3).bind fun bt263 => ((curtilageref05_Drop.f kj27 l0_0 l0_1 a3).bind fun bt271 => ((intern_Get.f l0_0 l0_1 a3).bind fun bt279 => ((curtilageref05_Get.f l0_0 l0_1 a3).bind fun bt283 => ((intern_Find.f l0_0 l0_1 l2).bind fun bt287 => ((curtilageref05_Find.f kj27 l0_0 l0_1 l2).bind fun bt289 => ((curtilageref05_Same.f kj27 t245 t248 bt254.1 bt254.2.1).bind fun t291 => (if t291 = true then (if t251 = bt254.2.2.1 then (if t252 = bt254.2.2.2 then ((curtilageref05_Same.f kj27 bt263.1 bt263.2.1 bt271.1 bt271.2.1).bind fun t292 => (if t292 = true then (if bt263.2.2 = bt271.2.2 then ((curtilageref02_Same.f kj27 bt279.1 bt283.1).bind fun t293 => (if t293 = true then (if bt279.2 = bt283.2 then (if bt287.1 = bt289.1 then (if (bt287.2 == bt289.2) = true then ((intern_Used.f l0_0 l0_1).bind fun t294 => ((curtilageref05_Used.f kj27 l0_0 l0_1).bind fun t295 => (if t294 = t295 then ((curtilageref05_Fit.f kj27 t245 t248).bind fun t296 => (if t296 = true then ((curtilageref05_Fit.f kj27 bt263.1 bt263.2.1).bind fun t297 => (if t297 = true then ((curtilagelaw05_awake.f kj27).bind fun t298 => (some t298)) else (some false))) else (some false))) else (some false)))) else (some false)) else (some false)) else (some false)) else (some false))) else (some false)) else (some false))) else (some false)) else (some false)) else (some false)))))))))) = some true := H
        have A53 := Q4 A530
        clear A530
        replace H := Option.bind_eq_some_iff.mp H
        obtain ⟨⟨t254, t257, t260, t261⟩, A540, H⟩ := H
        replace H : ((intern_Drop.f l0_0 l0_1 a3).bind fun bt263 => ((curtilageref05_Drop.f kj27 l0_0 l0_1 a3).bind fun bt271 => ((intern_Get.f l0_0 l0_1 a3).bind fun bt279 => ((curtilageref05_Get.f l0_0 l0_1 a3).bind fun bt283 => ((intern_Find.f l0_0 l0_1 l2).bind fun bt287 => ((curtilageref05_Find.f kj27 l0_0 l0_1 l2).bind fun bt289 => ((curtilageref05_Same.f kj27 t245 t248 t254 t257).bind fun t291 => (if t291 = true then (if t251 = t260 then (if t252 = t261 then ((curtilageref05_Same.f kj27 bt263.1 bt263.2.1 bt271.1 bt271.2.1).bind fun t292 => (if t292 = true then (if bt263.2.2 = bt271.2.2 then ((curtilageref02_Same.f kj27 bt279.1 bt283.1).bind fun t293 => (if t293 = true then (if bt279.2 = bt283.2 then (if bt287.1 = bt289.1 then (if (bt287.2 == bt289.2) = true then ((intern_Used.f l0_0 l0_1).bind fun t294 => ((curtilageref05_Used.f kj27 l0_0 l0_1).bind fun t295 => (if t294 = t295 then ((curtilageref05_Fit.f kj27 t245 t248).bind fun t296 => (if t296 = true then ((curtilageref05_Fit.f kj27 bt263.1 bt263.2.1).bind fun t297 => (if t297 = true then ((curtilagelaw05_awake.f kj27).bind fun t298 => (some t298)) else (some false))) else (some false))) else (some false)))) else (some false)) else (some false)) else (some false)) else (some false))) else (some false)) else (some false))) else (some false)) else (some false)) else (some false))))))))) = some true := H
        have A54 := Q4 A540
        clear A540
        replace H := Option.bind_eq_some_iff.mp H
        obtain ⟨⟨t263, t266, t269⟩, A550, H⟩ := H
        replace H : ((curtilageref05_Drop.f kj27 l0_0 l0_1 a3).bind fun bt271 => ((intern_Get.f l0_0 l0_1 a3).bind fun bt279 => ((curtilageref05_Get.f l0_0 l0_1 a3).bind fun bt283 => ((intern_Find.f l0_0 l0_1 l2).bind fun bt287 => ((curtilageref05_Find.f kj27 l0_0 l0_1 l2).bind fun bt289 => ((curtilageref05_Same.f kj27 t245 t248 t254 t257).bind fun t291 => (if t291 = true then (if t251 = t260 then (if t252 = t261 then ((curtilageref05_Same.f kj27 t263 t266 bt271.1 bt271.2.1).bind fun t292 => (if t292 = true then (if t269 = bt271.2.2 then ((curtilageref02_Same.f kj27 bt279.1 bt283.1).bind fun t293 => (if t293 = true then (if bt279.2 = bt283.2 then (if bt287.1 = bt289.1 then (if (bt287.2 == bt289.2) = true then ((intern_Used.f l0_0 l0_1).bind fun t294 => ((curtilageref05_Used.f kj27 l0_0 l0_1).bind fun t295 => (if t294 = t295 then ((curtilageref05_Fit.f kj27 t245 t248).bind fun t296 => (if t296 = true then ((curtilageref05_Fit.f kj27 t263 t266).bind fun t297 => (if t297 = true then ((curtilagelaw05_awake.f kj27).bind fun t298 => (some t298)) else (some false))) else (some false))) else (some false)))) else (some false)) else (some false)) else (some false)) else (some false))) else (some false)) else (some false))) else (some false)) else (some false)) else (some false)))))))) = some true := H
        have A55 := Q4 A550
        clear A550
        replace H := Option.bind_eq_some_iff.mp H
        obtain ⟨⟨t271, t274, t277⟩, A560, H⟩ := H
        replace H : ((intern_Get.f l0_0 l0_1 a3).bind fun bt279 => ((curtilageref05_Get.f l0_0 l0_1 a3).bind fun bt283 => ((intern_Find.f l0_0 l0_1 l2).bind fun bt287 => ((curtilageref05_Find.f kj27 l0_0 l0_1 l2).bind fun bt289 => ((curtilageref05_Same.f kj27 t245 t248 t254 t257).bind fun t291 => (if t291 = true then (if t251 = t260 then (if t252 = t261 then ((curtilageref05_Same.f kj27 t263 t266 t271 t274).bind fun t292 => (if t292 = true then (if t269 = t277 then ((curtilageref02_Same.f kj27 bt279.1 bt283.1).bind fun t293 => (if t293 = true then (if bt279.2 = bt283.2 then (if bt287.1 = bt289.1 then (if (bt287.2 == bt289.2) = true then ((intern_Used.f l0_0 l0_1).bind fun t294 => ((curtilageref05_Used.f kj27 l0_0 l0_1).bind fun t295 => (if t294 = t295 then ((curtilageref05_Fit.f kj27 t245 t248).bind fun t296 => (if t296 = true then ((curtilageref05_Fit.f kj27 t263 t266).bind fun t297 => (if t297 = true then ((curtilagelaw05_awake.f kj27).bind fun t298 => (some t298)) else (some false))) else (some false))) else (some false)))) else (some false)) else (some false)) else (some false)) else (some false))) else (some false)) else (some false))) else (some false)) else (some false)) else (some false))))))) = some true := H
        have A56 := Q4 A560
        clear A560
        replace H := Option.bind_eq_some_iff.mp H
        obtain ⟨⟨t279, t282⟩, A570, H⟩ := H
        replace H : ((curtilageref05_Get.f l0_0 l0_1 a3).bind fun bt283 => ((intern_Find.f l0_0 l0_1 l2).bind fun bt287 => ((curtilageref05_Find.f kj27 l0_0 l0_1 l2).bind fun bt289 => ((curtilageref05_Same.f kj27 t245 t248 t254 t257).bind fun t291 => (if t291 = true then (if t251 = t260 then (if t252 = t261 then ((curtilageref05_Same.f kj27 t263 t266 t271 t274).bind fun t292 => (if t292 = true then (if t269 = t277 then ((curtilageref02_Same.f kj27 t279 bt283.1).bind fun t293 => (if t293 = true then (if t282 = bt283.2 then (if bt287.1 = bt289.1 then (if (bt287.2 == bt289.2) = true then ((intern_Used.f l0_0 l0_1).bind fun t294 => ((curtilageref05_Used.f kj27 l0_0 l0_1).bind fun t295 => (if t294 = t295 then ((curtilageref05_Fit.f kj27 t245 t248).bind fun t296 => (if t296 = true then ((curtilageref05_Fit.f kj27 t263 t266).bind fun t297 => (if t297 = true then ((curtilagelaw05_awake.f kj27).bind fun t298 => (some t298)) else (some false))) else (some false))) else (some false)))) else (some false)) else (some false)) else (some false)) else (some false))) else (some false)) else (some false))) else (some false)) else (some false)) else (some false)))))) = some true := H
        have A57 := Q4 A570
        clear A570
        replace H := Option.bind_eq_some_iff.mp H
        obtain ⟨⟨t283, t286⟩, A580, H⟩ := H
        replace H : ((intern_Find.f l0_0 l0_1 l2).bind fun bt287 => ((curtilageref05_Find.f kj27 l0_0 l0_1 l2).bind fun bt289 => ((curtilageref05_Same.f kj27 t245 t248 t254 t257).bind fun t291 => (if t291 = true then (if t251 = t260 then (if t252 = t261 then ((curtilageref05_Same.f kj27 t263 t266 t271 t274).bind fun t292 => (if t292 = true then (if t269 = t277 then ((curtilageref02_Same.f kj27 t279 t283).bind fun t293 => (if t293 = true then (if t282 = t286 then (if bt287.1 = bt289.1 then (if (bt287.2 == bt289.2) = true then ((intern_Used.f l0_0 l0_1).bind fun t294 => ((curtilageref05_Used.f kj27 l0_0 l0_1).bind fun t295 => (if t294 = t295 then ((curtilageref05_Fit.f kj27 t245 t248).bind fun t296 => (if t296 = true then ((curtilageref05_Fit.f kj27 t263 t266).bind fun t297 => (if t297 = true then ((curtilagelaw05_awake.f kj27).bind fun t298 => (some t298)) else (some false))) else (some false))) else (some false)))) else (some false)) else (some false)) else (some false)) else (some false))) else (some false)) else (some false))) else (some false)) else (some false)) else (some false))))) = some true := H
        have A58 := Q4 A580
        clear A580
        replace H := Option.bind_eq_some_iff.mp H
        obtain ⟨⟨t287, t288⟩, A590, H⟩ := H
        replace H : ((curtilageref05_Find.f kj27 l0_0 l0_1 l2).bind fun bt289 => ((curtilageref05_Same.f kj27 t245 t248 t254 t257).bind fun t291 => (if t291 = true then (if t251 = t260 then (if t252 = t261 then ((curtilageref05_Same.f kj27 t263 t266 t271 t274).bind fun t292 => (if t292 = true then (if t269 = t277 then ((curtilageref02_Same.f kj27 t279 t283).bind fun t293 => (if t293 = true then (if t282 = t286 then (if t287 = bt289.1 then (if (t288 == bt289.2) = true then ((intern_Used.f l0_0 l0_1).bind fun t294 => ((curtilageref05_Used.f kj27 l0_0 l0_1).bind fun t295 => (if t294 = t295 then ((curtilageref05_Fit.f kj27 t245 t248).bind fun t296 => (if t296 = true then ((curtilageref05_Fit.f kj27 t263 t266).bind fun t297 => (if t297 = true then ((curtilagelaw05_awake.f kj27).bind fun t298 => (some t298)) else (some false))) else (some false))) else (some false)))) else (some false)) else (some false)) else (some false)) else (some false))) else (some false)) else (some false))) else (some false)) else (some false)) else (some false)))) = some true := H
        have A59 := Q4 A590
        clear A590
        replace H := Option.bind_eq_some_iff.mp H
        obtain ⟨⟨t289, t290⟩, A600, H⟩ := H
        replace H : ((curtilageref05_Same.f kj27 t245 t248 t254 t257).bind fun t291 => (if t291 = true then (if t251 = t260 then (if t252 = t261 then ((curtilageref05_Same.f kj27 t263 t266 t271 t274).bind fun t292 => (if t292 = true then (if t269 = t277 then ((curtilageref02_Same.f kj27 t279 t283).bind fun t293 => (if t293 = true then (if t282 = t286 then (if t287 = t289 then (if (t288 == t290) = true then ((intern_Used.f l0_0 l0_1).bind fun t294 => ((curtilageref05_Used.f kj27 l0_0 l0_1).bind fun t295 => (if t294 = t295 then ((curtilageref05_Fit.f kj27 t245 t248).bind fun t296 => (if t296 = true then ((curtilageref05_Fit.f kj27 t263 t266).bind fun t297 => (if t297 = true then ((curtilagelaw05_awake.f kj27).bind fun t298 => (some t298)) else (some false))) else (some false))) else (some false)))) else (some false)) else (some false)) else (some false)) else (some false))) else (some false)) else (some false))) else (some false)) else (some false)) else (some false))) = some true := H
        have A60 := Q4 A600
        clear A600
        replace H := Option.bind_eq_some_iff.mp H
        obtain ⟨t291, A610, H⟩ := H
        replace H : (if t291 = true then (if t251 = t260 then (if t252 = t261 then ((curtilageref05_Same.f kj27 t263 t266 t271 t274).bind fun t292 => (if t292 = true then (if t269 = t277 then ((curtilageref02_Same.f kj27 t279 t283).bind fun t293 => (if t293 = true then (if t282 = t286 then (if t287 = t289 then (if (t288 == t290) = true then ((intern_Used.f l0_0 l0_1).bind fun t294 => ((curtilageref05_Used.f kj27 l0_0 l0_1).bind fun t295 => (if t294 = t295 then ((curtilageref05_Fit.f kj27 t245 t248).bind fun t296 => (if t296 = true then ((curtilageref05_Fit.f kj27 t263 t266).bind fun t297 => (if t297 = true then ((curtilagelaw05_awake.f kj27).bind fun t298 => (some t298)) else (some false))) else (some false))) else (some false)))) else (some false)) else (some false)) else (some false)) else (some false))) else (some false)) else (some false))) else (some false)) else (some false)) else (some false)) = some true := H
        have A61 := Q4 A610
        clear A610
        by_cases c62 : t291 = true
        ·subst c62
         have H1 : (if t251 = t260 then (if t252 = t261 then ((curtilageref05_Same.f kj27 t263 t266 t271 t274).bind fun t292 => (if t292 = true then (if t269 = t277 then ((curtilageref02_Same.f kj27 t279 t283).bind fun t293 => (if t293 = true then (if t282 = t286 then (if t287 = t289 then (if (t288 == t290) = true then ((intern_Used.f l0_0 l0_1).bind fun t294 => ((curtilageref05_Used.f kj27 l0_0 l0_1).bind fun t295 => (if t294 = t295 then ((curtilageref05_Fit.f kj27 t245 t248).bind fun t296 => (if t296 = true then ((curtilageref05_Fit.f kj27 t263 t266).bind fun t297 => (if t297 = true then ((curtilagelaw05_awake.f kj27).bind fun t298 => (some t298)) else (some false))) else (some false))) else (some false)))) else (some false)) else (some false)) else (some false)) else (some false))) else (some false)) else (some false))) else (some false)) else (some false)) = some true := by rw [if_pos rfl] at H; exact H
         clear H
         have H := H1
         clear H1
         by_cases c63 : t251 = t260
         ·rw [if_pos c63] at H
          have c63b0 : (t251 == t260) = true := beq_iff_eq.mpr c63
          have c63b1 : (t251 != t260) = false := bne_eq_false_iff_eq.mpr c63
          clear c63
          by_cases c64 : t252 = t261
          ·rw [if_pos c64] at H
           have c64b0 : (t252 == t261) = true := beq_iff_eq.mpr c64
           have c64b1 : (t252 != t261) = false := bne_eq_false_iff_eq.mpr c64
           clear c64
           replace H := Option.bind_eq_some_iff.mp H
           obtain ⟨t292, A650, H⟩ := H
           replace H : (if t292 = true then (if t269 = t277 then ((curtilageref02_Same.f kj27 t279 t283).bind fun t293 => (if t293 = true then (if t282 = t286 then (if t287 = t289 then (if (t288 == t290) = true then ((intern_Used.f l0_0 l0_1).bind fun t294 => ((curtilageref05_Used.f kj27 l0_0 l0_1).bind fun t295 => (if t294 = t295 then ((curtilageref05_Fit.f kj27 t245 t248).bind fun t296 => (if t296 = true then ((curtilageref05_Fit.f kj27 t263 t266).bind fun t297 => (if t297 = true then ((curtilagelaw05_awake.f kj27).bind fun t298 => (some t298)) else (some false))) else (some false))) else (some false)))) else (some false)) else (some false)) else (some false)) else (some false))) else (some false)) else (some false)) = some true := H
           have A65 := Q4 A650
           clear A650
           by_cases c66 : t292 = true
           ·subst c66
            have H1 : (if t269 = t277 then ((curtilageref02_Same.f kj27 t279 t283).bind fun t293 => (if t293 = true then (if t282 = t286 then (if t287 = t289 then (if (t288 == t290) = true then ((intern_Used.f l0_0 l0_1).bind fun t294 => ((curtilageref05_Used.f kj27 l0_0 l0_1).bind fun t295 => (if t294 = t295 then ((curtilageref05_Fit.f kj27 t245 t248).bind fun t296 => (if t296 = true then ((curtilageref05_Fit.f kj27 t263 t266).bind fun t297 => (if t297 = true then ((curtilagelaw05_awake.f kj27).bind fun t298 => (some t298)) else (some false))) else (some false))) else (some false)))) else (some false)) else (some false)) else (some false)) else (some false))) else (some false)) = some true := by rw [if_pos rfl] at H; exact H
            clear H
            have H := H1
            clear H1
            by_cases c67 : t269 = t277
            ·rw [if_pos c67] at H
             have c67b0 : (t269 == t277) = true := beq_iff_eq.mpr c67
             have c67b1 : (t269 != t277) = false := bne_eq_false_iff_eq.mpr c67
             clear c67
             replace H := Option.bind_eq_some_iff.mp H
             obtain ⟨t293, A680, H⟩ := H
             replace H : (if t293 = true then (if t282 = t286 then (if t287 = t289 then (if (t288 == t290) = true then ((intern_Used.f l0_0 l0_1).bind fun t294 => ((curtilageref05_Used.f kj27 l0_0 l0_1).bind fun t295 => (if t294 = t295 then ((curtilageref05_Fit.f kj27 t245 t248).bind fun t296 => (if t296 = true then ((curtilageref05_Fit.f kj27 t263 t266).bind fun t297 => (if t297 = true then ((curtilagelaw05_awake.f kj27).bind fun t298 => (some t298)) else (some false))) else (some false))) else (some false)))) else (some false)) else (some false)) else (some false)) else (some false)) = some true := H
             have A68 := Q4 A680
             clear A680
             by_cases c69 : t293 = true
             ·subst c69
              have H1 : (if t282 = t286 then (if t287 = t289 then (if (t288 == t290) = true then ((intern_Used.f l0_0 l0_1).bind fun t294 => ((curtilageref05_Used.f kj27 l0_0 l0_1).bind fun t295 => (if t294 = t295 then ((curtilageref05_Fit.f kj27 t245 t248).bind fun t296 => (if t296 = true then ((curtilageref05_Fit.f kj27 t263 t266).bind fun t297 => (if t297 = true then ((curtilagelaw05_awake.f kj27).bind fun t298 => (some t298)) else (some false))) else (some false))) else (some false)))) else (some false)) else (some false)) else (some false)) = some true := by rw [if_pos rfl] at H; exact H
              clear H
              have H := H1
              clear H1
              by_cases c70 : t282 = t286
              ·rw [if_pos c70] at H
               have c70b0 : (t282 == t286) = true := beq_iff_eq.mpr c70
               have c70b1 : (t282 != t286) = false := bne_eq_false_iff_eq.mpr c70
               clear c70
               by_cases c71 : t287 = t289
               ·rw [if_pos c71] at H
                have c71b0 : (t287 == t289) = true := beq_iff_eq.mpr c71
                have c71b1 : (t287 != t289) = false := bne_eq_false_iff_eq.mpr c71
                clear c71
                by_cases c72 : (t288 == t290) = true
                ·rw [if_pos c72] at H
                 have c72b0 : (t288 == t290) = true := c72
                 (try (have c72b1 : decide (t288 = t290) = true := by simpa using c72))
                 (try (have c72b2 : (t288 == t290) = true := by simpa using c72))
                 clear c72
                 replace H := Option.bind_eq_some_iff.mp H
                 obtain ⟨t294, A730, H⟩ := H
                 replace H : ((curtilageref05_Used.f kj27 l0_0 l0_1).bind fun t295 => (if t294 = t295 then ((curtilageref05_Fit.f kj27 t245 t248).bind fun t296 => (if t296 = true then ((curtilageref05_Fit.f kj27 t263 t266).bind fun t297 => (if t297 = true then ((curtilagelaw05_awake.f kj27).bind fun t298 => (some t298)) else (some false))) else (some false))) else (some false))) = some true := H
                 have A73 := Q4 A730
                 clear A730
                 replace H := Option.bind_eq_some_iff.mp H
                 obtain ⟨t295, A740, H⟩ := H
                 replace H : (if t294 = t295 then ((curtilageref05_Fit.f kj27 t245 t248).bind fun t296 => (if t296 = true then ((curtilageref05_Fit.f kj27 t263 t266).bind fun t297 => (if t297 = true then ((curtilagelaw05_awake.f kj27).bind fun t298 => (some t298)) else (some false))) else (some false))) else (some false)) = some true := H
                 have A74 := Q4 A740
                 clear A740
                 by_cases c75 : t294 = t295
                 ·rw [if_pos c75] at H
                  have c75b0 : (t294 == t295) = true := beq_iff_eq.mpr c75
                  have c75b1 : (t294 != t295) = false := bne_eq_false_iff_eq.mpr c75
                  clear c75
                  replace H := Option.bind_eq_some_iff.mp H
                  obtain ⟨t296, A760, H⟩ := H
                  replace H : (if t296 = true then ((curtilageref05_Fit.f kj27 t263 t266).bind fun t297 => (if t297 = true then ((curtilagelaw05_awake.f kj27).bind fun t298 => (some t298)) else (some false))) else (some false)) = some true := H
                  have A76 := Q4 A760
                  clear A760
                  by_cases c77 : t296 = true
                  ·subst c77
                   have H1 : ((curtilageref05_Fit.f kj27 t263 t266).bind fun t297 => (if t297 = true then ((curtilagelaw05_awake.f kj27).bind fun t298 => (some t298)) else (some false))) = some true := by rw [if_pos rfl] at H; exact H
                   clear H
                   have H := H1
                   clear H1
                   replace H := Option.bind_eq_some_iff.mp H
                   obtain ⟨t297, A780, H⟩ := H
                   replace H : (if t297 = true then ((curtilagelaw05_awake.f kj27).bind fun t298 => (some t298)) else (some false)) = some true := H
                   have A78 := Q4 A780
                   clear A780
                   by_cases c79 : t297 = true
                   ·subst c79
                    have H1 : ((curtilagelaw05_awake.f kj27).bind fun t298 => (some t298)) = some true := by rw [if_pos rfl] at H; exact H
                    clear H
                    have H := H1
                    clear H1
                    replace H := Option.bind_eq_some_iff.mp H
                    obtain ⟨t298, A800, H⟩ := H
                    replace H : (some t298) = some true := H
                    have A80 := Q4 A800
                    clear A800
                    obtain rfl := Option.some.inj H
                    have hnb81 := NB233_234.out
                    have hnc81 := NB234_233.out
                    have hcz82_0 : wc.cell? ⟨gb233, 0, none⟩ = some (.slice A0_0 l0_0.length c0_0) := (blk_cell BK233.out 0).trans rfl
                    have hcz82_1 : wc.cell? ⟨gb233, 1, none⟩ = some (.slice A0_1 l0_1.length c0_1) := (blk_cell BK233.out 1).trans rfl
                    have hfz82_0 := blk_frozen BK233.out 0
                    have hfz82_1 := blk_frozen BK233.out 1
                    try go_wp2_with (first | ((with_reducible refine gate_callee (f := 12) rfl ?_); refine goesL_ (some 62) rfl rfl Try.func12 (by kernel_rfl) rfl #[.agg #[.slice A0_0 l0_0.length c0_0, .slice A0_1 l0_1.length c0_1]] rfl (by (try simp only [List.map_toArray, List.map_cons, List.map_nil]); first | done | rfl | (simp only [List.length_drop, List.length_take]; rfl)) ?_; (with_reducible refine (curtilageref05_Fit.calls kj27 _ _ l0_0 _ _ l0_1 true _ ?side1 ?side2 ?side3 ?side4 A51.out).mono ?_); (case side1 => repeat (first|exact (Kd.C_below HR0_0.out HB.out) | (with_reducible refine Kd.C_alloc ?_ _) | (with_reducible refine Kd.C_drewN ?_ _) | (with_reducible refine Kd.C_drew ?_))); (case side2 => exact HC0_0.out); (case side3 => repeat (first|exact (Kd.C_below HR0_1.out HB.out) | (with_reducible refine Kd.C_alloc ?_ _) | (with_reducible refine Kd.C_drewN ?_ _) | (with_reducible refine Kd.C_drew ?_))); (case side4 => exact HC0_1.out); rintro e w83 ⟨rfl, hb⟩; refine ⟨_, rfl, ?_⟩; have n0_ := Q4 (blk_below (g := gb233) (o := .cells #[.slice A0_0 l0_0.length c0_0, .slice A0_1 l0_1.length c0_1] 27 (0, 0)) (by (with_reducible repeat (first|refine Qa ?_ _|refine Qb ?_|refine Q7 ?_ _)); exact BK233.out) hb); have n1_ := Q4 (blk_below (g := gb234) (o := .cells #[.slice A1_0 l1_0.length c1_0, .slice A1_1 l1_1.length c1_1] 27 (0, 0)) (by (with_reducible repeat (first|refine Qa ?_ _|refine Qb ?_|refine Q7 ?_ _)); exact BK234.out) hb); have n2_ := Q4 (below_step (by repeat (first | (with_reducible first|exact HB.out|apply Q8|apply Q5|apply Q9|refine Q6 ?_ GE233.out|refine Q6 ?_ GE234.out)|exact HB.out)) hb); clear BK233; clear BK234; clear HB; have BK233 := n0_; have BK234 := n1_; have HB := n2_; clear n0_ n1_ n2_; (try clear hb); (try clear hb2); (try clear hk); (try clear hi); have hcz84_0 : w83.cell? ⟨gb233, 0, none⟩ = some (.slice A0_0 l0_0.length c0_0) := (blk_cell BK233.out 0).trans rfl; have hcz84_1 : w83.cell? ⟨gb233, 1, none⟩ = some (.slice A0_1 l0_1.length c0_1) := (blk_cell BK233.out 1).trans rfl; have hfz84_0 := blk_frozen BK233.out 0; have hfz84_1 := blk_frozen BK233.out 1) | ((with_reducible refine gate_callee (f := 8) rfl ?_); refine goesL_ (some 68) rfl rfl Try.func8 (by kernel_rfl) rfl #[.agg #[.slice A0_0 l0_0.length c0_0, .slice A0_1 l0_1.length c0_1], .slice A2 l2.length c2] rfl (by (try simp only [List.map_toArray, List.map_cons, List.map_nil]); first | done | rfl | (simp only [List.length_drop, List.length_take]; rfl)) ?_; (with_reducible refine (intern_Add.calls kj27 (fun k_ => k_ < w.heap.size) _ _ l0_0 (fun k_ => k_ < w.heap.size) _ _ l0_1 _ _ l2 t245 t248 t251 t252 _ ?side1 ?side2 ?side3 ?side4 A53.out).mono ?_); (case side1 => exact Kd.V_mk HC0_0.out (Kd.F_below (Kd.C_F (Kd.heap_slice 57 k57_heap) HR0_0.out) (by repeat (first | (with_reducible first|exact HB.out|apply Q8|apply Q5|apply Q9|refine Q6 ?_ GE233.out|refine Q6 ?_ GE234.out)|exact HB.out)))); (case side2 => exact Kd.V_mk HC0_1.out (Kd.F_below (Kd.C_F (Kd.heap_int .i64) HR0_1.out) (by repeat (first | (with_reducible first|exact HB.out|apply Q8|apply Q5|apply Q9|refine Q6 ?_ GE233.out|refine Q6 ?_ GE234.out)|exact HB.out)))); (case side3 => repeat (first|exact (Kd.C_below HR2.out HB.out) | (with_reducible refine Kd.C_alloc ?_ _) | (with_reducible refine Kd.C_drewN ?_ _) | (with_reducible refine Kd.C_drew ?_))); (case side4 => exact HC2.out); rintro e w85 ⟨v246, v249, rfl, ho0, ho1, hb⟩; refine ⟨_, rfl, ?_⟩; have n0_ := Q4 (Kd.V_lower (Kd.V_mono (ok' := fun k_ => k_ ≠ gb233 ∧ k_ ≠ gb234) ho0 (fun k_ hk_ => ⟨Or.elim hk_ (fun hs_ => Or.elim hs_ (fun hs_ => fun e_ => Nat.not_le.2 hs_ (by rw [e_]; exact GW233.out)) (fun hs_ => fun e_ => Nat.not_le.2 hs_ (by rw [e_]; exact GW233.out))) (fun hn_ => (Kd.freshB (g := gb233) (o := .cells #[.slice A0_0 l0_0.length c0_0, .slice A0_1 l0_1.length c0_1] 27 (0, 0)) (by (with_reducible repeat (first|refine Qa ?_ _|refine Qb ?_|refine Q7 ?_ _)); exact BK233.out) k_ hn_)), Or.elim hk_ (fun hs_ => Or.elim hs_ (fun hs_ => fun e_ => Nat.not_le.2 hs_ (by rw [e_]; exact GW234.out)) (fun hs_ => fun e_ => Nat.not_le.2 hs_ (by rw [e_]; exact GW234.out))) (fun hn_ => (Kd.freshB (g := gb234) (o := .cells #[.slice A1_0 l1_0.length c1_0, .slice A1_1 l1_1.length c1_1] 27 (0, 0)) (by (with_reducible repeat (first|refine Qa ?_ _|refine Qb ?_|refine Q7 ?_ _)); exact BK234.out) k_ hn_))⟩)) (below_size (by repeat (first | (with_reducible first|exact HB.out|apply Q8|apply Q5|apply Q9|refine Q6 ?_ GE233.out|refine Q6 ?_ GE234.out)|exact HB.out)))); have n1_ := Q4 (Kd.V_lower (Kd.V_mono (ok' := fun k_ => k_ ≠ gb233 ∧ k_ ≠ gb234) ho1 (fun k_ hk_ => ⟨Or.elim hk_ (fun hs_ => Or.elim hs_ (fun hs_ => fun e_ => Nat.not_le.2 hs_ (by rw [e_]; exact GW233.out)) (fun hs_ => fun e_ => Nat.not_le.2 hs_ (by rw [e_]; exact GW233.out))) (fun hn_ => (Kd.freshB (g := gb233) (o := .cells #[.slice A0_0 l0_0.length c0_0, .slice A0_1 l0_1.length c0_1] 27 (0, 0)) (by (with_reducible repeat (first|refine Qa ?_ _|refine Qb ?_|refine Q7 ?_ _)); exact BK233.out) k_ hn_)), Or.elim hk_ (fun hs_ => Or.elim hs_ (fun hs_ => fun e_ => Nat.not_le.2 hs_ (by rw [e_]; exact GW234.out)) (fun hs_ => fun e_ => Nat.not_le.2 hs_ (by rw [e_]; exact GW234.out))) (fun hn_ => (Kd.freshB (g := gb234) (o := .cells #[.slice A1_0 l1_0.length c1_0, .slice A1_1 l1_1.length c1_1] 27 (0, 0)) (by (with_reducible repeat (first|refine Qa ?_ _|refine Qb ?_|refine Q7 ?_ _)); exact BK234.out) k_ hn_))⟩)) (below_size (by repeat (first | (with_reducible first|exact HB.out|apply Q8|apply Q5|apply Q9|refine Q6 ?_ GE233.out|refine Q6 ?_ GE234.out)|exact HB.out)))); have n2_ := Q4 (blk_below (g := gb233) (o := .cells #[.slice A0_0 l0_0.length c0_0, .slice A0_1 l0_1.length c0_1] 27 (0, 0)) (by (with_reducible repeat (first|refine Qa ?_ _|refine Qb ?_|refine Q7 ?_ _)); exact BK233.out) hb); have n3_ := Q4 (blk_below (g := gb234) (o := .cells #[.slice A1_0 l1_0.length c1_0, .slice A1_1 l1_1.length c1_1] 27 (0, 0)) (by (with_reducible repeat (first|refine Qa ?_ _|refine Qb ?_|refine Q7 ?_ _)); exact BK234.out) hb); have n4_ := Q4 (below_step (by repeat (first | (with_reducible first|exact HB.out|apply Q8|apply Q5|apply Q9|refine Q6 ?_ GE233.out|refine Q6 ?_ GE234.out)|exact HB.out)) hb); clear BK233; clear BK234; clear HB; have HO247 := n0_; have HO250 := n1_; have BK233 := n2_; have BK234 := n3_; have HB := n4_; clear n0_ n1_ n2_ n3_ n4_; (try clear hb); (try clear hb2); (try clear hk); (try clear hi); (try clear ho0); (try clear ho1)) | ((with_reducible refine gate_dst (N := 9) rfl ?_); (try (refine gate_guard (by rfl) ?_; dsimp only)); refine box_event ?hg (N := 9) ?hd (cs := #[.slice none 0 0, .slice none 0 0]) (t := 27) ?hr ?_; (case hd => rfl); (case hg => rfl); (case hr => first | (go_simp; done) | (go_simp; rfl)); intro gb253 hg w86 hbox hb; have n0_ := Q4 (Kd.V_below (Kd.V_elderB (by (with_reducible repeat (first|apply Kd.V_alloc|apply Kd.V_drewN|apply Kd.V_drew)); exact HO247.out) gb253 (Nat.le_of_eq hg.symm)) hb); have n1_ := Q4 (Kd.V_below (Kd.V_elderB (by (with_reducible repeat (first|apply Kd.V_alloc|apply Kd.V_drewN|apply Kd.V_drew)); exact HO250.out) gb253 (Nat.le_of_eq hg.symm)) hb); have n2_ := Q4 (blk_below (g := gb233) (o := .cells #[.slice A0_0 l0_0.length c0_0, .slice A0_1 l0_1.length c0_1] 27 (0, 0)) (by (with_reducible repeat (first|refine Qa ?_ _|refine Qb ?_|refine Q7 ?_ _)); exact BK233.out) hb); have n3_ := Q4 (blk_below (g := gb234) (o := .cells #[.slice A1_0 l1_0.length c1_0, .slice A1_1 l1_1.length c1_1] 27 (0, 0)) (by (with_reducible repeat (first|refine Qa ?_ _|refine Qb ?_|refine Q7 ?_ _)); exact BK234.out) hb); have n4_ := Q4 (below_step (by repeat (first | (with_reducible first|exact HB.out|apply Q8|apply Q5|apply Q9|refine Q6 ?_ GE233.out|refine Q6 ?_ GE234.out)|exact HB.out)) hb); have n5_ := Q4 (hbox); have n6_ := Q4 ((by rw [hg]; exact (below_size (by repeat (first | (with_reducible first|exact HB.out|apply Q8|apply Q5|apply Q9|refine Q6 ?_ GE233.out|refine Q6 ?_ GE234.out)|exact HB.out))) : w.heap.size ≤ gb253)); have n7_ := Q4 ((by rw [hg]; exact (below_size (by repeat (first | (with_reducible first|exact HB.out|apply Q8|apply Q5|apply Q9|refine Q6 ?_ GE233.out|refine Q6 ?_ GE234.out)|exact HB.out))) : w.heap.size ≤ gb253)); have n8_ := Q4 ((by rw [hg]; exact Nat.ne_of_lt (blk_lt (g := gb233) (o := .cells #[.slice A0_0 l0_0.length c0_0, .slice A0_1 l0_1.length c0_1] 27 (0, 0)) (by (with_reducible repeat (first|refine Qa ?_ _|refine Qb ?_|refine Q7 ?_ _)); exact BK233.out)) : gb233 ≠ gb253)); have n9_ := Q4 ((by rw [hg]; exact Nat.ne_of_gt (blk_lt (g := gb233) (o := .cells #[.slice A0_0 l0_0.length c0_0, .slice A0_1 l0_1.length c0_1] 27 (0, 0)) (by (with_reducible repeat (first|refine Qa ?_ _|refine Qb ?_|refine Q7 ?_ _)); exact BK233.out)) : gb253 ≠ gb233)); have n10_ := Q4 ((by rw [hg]; exact Nat.ne_of_lt (blk_lt (g := gb234) (o := .cells #[.slice A1_0 l1_0.length c1_0, .slice A1_1 l1_1.length c1_1] 27 (0, 0)) (by (with_reducible repeat (first|refine Qa ?_ _|refine Qb ?_|refine Q7 ?_ _)); exact BK234.out)) : gb234 ≠ gb253)); have n11_ := Q4 ((by rw [hg]; exact Nat.ne_of_gt (blk_lt (g := gb234) (o := .cells #[.slice A1_0 l1_0.length c1_0, .slice A1_1 l1_1.length c1_1] 27 (0, 0)) (by (with_reducible repeat (first|refine Qa ?_ _|refine Qb ?_|refine Q7 ?_ _)); exact BK234.out)) : gb253 ≠ gb234)); clear HO247; clear HO250; clear BK233; clear BK234; clear HB; have HO247 := n0_; have HO250 := n1_; have BK233 := n2_; have BK234 := n3_; have HB := n4_; have BK253 := n5_; have GW253 := n6_; have GE253 := n7_; have NB233_253 := n8_; have NB253_233 := n9_; have NB234_253 := n10_; have NB253_234 := n11_; clear n0_ n1_ n2_ n3_ n4_ n5_ n6_ n7_ n8_ n9_ n10_ n11_; clear hb hbox hg; obtain ⟨Ao87, co87, eo87⟩ := Kd.V_slice HO247.out; subst eo87; have hnb88 := NB253_233.out; have hnc88 := NB233_253.out; have hnb89 := NB253_234.out; have hnc89 := NB234_253.out; have hcz90_0 : w86.cell? ⟨gb253, 0, none⟩ = some (.slice none 0 0) := (blk_cell BK253.out 0).trans rfl; have hcz90_1 : w86.cell? ⟨gb253, 1, none⟩ = some (.slice none 0 0) := (blk_cell BK253.out 1).trans rfl; have hfz90_0 := blk_frozen BK253.out 0; have hfz90_1 := blk_frozen BK253.out 1; obtain ⟨Ao91, co91, eo91⟩ := Kd.V_slice HO250.out; subst eo91) | ((with_reducible refine gate_store (t := 27) (p := 9) rfl ?_); refine store_event (t := 27) (p := 9) (v := ?vo_w92) (w1 := ((w86.setCell ⟨gb253, 0, none⟩ (.slice Ao87 t245.length co87)).setCell ⟨gb253, 1, none⟩ (.slice Ao91 t248.length co91))) ?hg ?ho ?hn ?hr ?_; (case ho => rfl); (case hg => rfl); (case hn => rfl); (case hr => first | (go_simp; done) | (go_simp; rfl)); intro w92 hw; have n0_ : Aside0 (Kd.V (Kd.slice 57 k57) 29 w92 w.heap.size (fun k_ => k_ ≠ gb233 ∧ k_ ≠ gb234 ∧ k_ ≠ gb253) (.slice Ao87 t245.length co87) t245) := ⟨(by rw [hw]; exact (by (with_reducible repeat (first|apply Kd.V_alloc|apply Kd.V_drewN|apply Kd.V_drew)); exact Kd.V_mono (Kd.V_far (p := ⟨gb253, 1, none⟩) (Kd.V_far (p := ⟨gb253, 0, none⟩) (Kd.V_mono HO247.out (fun k_ hk => (⟨hk, hk.2⟩ : _ ∧ k_ ≠ gb253))) (fun _ hk => hk.2) (.slice Ao87 t245.length co87)) (fun _ hk => hk.2) (.slice Ao91 t248.length co91)) (fun _ hk => ⟨hk.1.1.1, ⟨hk.1.1.2, hk.1.2⟩⟩)))⟩; have n1_ : Aside0 (Kd.V (Kd.int .i64) 3 w92 w.heap.size (fun k_ => k_ ≠ gb233 ∧ k_ ≠ gb234 ∧ k_ ≠ gb253) (.slice Ao91 t248.length co91) t248) := ⟨(by rw [hw]; exact (by (with_reducible repeat (first|apply Kd.V_alloc|apply Kd.V_drewN|apply Kd.V_drew)); exact Kd.V_mono (Kd.V_far (p := ⟨gb253, 1, none⟩) (Kd.V_far (p := ⟨gb253, 0, none⟩) (Kd.V_mono HO250.out (fun k_ hk => (⟨hk, hk.2⟩ : _ ∧ k_ ≠ gb253))) (fun _ hk => hk.2) (.slice Ao87 t245.length co87)) (fun _ hk => hk.2) (.slice Ao91 t248.length co91)) (fun _ hk => ⟨hk.1.1.1, ⟨hk.1.1.2, hk.1.2⟩⟩)))⟩; have n2_ : Aside0 (w92.heap[gb233]? = some (.cells #[.slice A0_0 l0_0.length c0_0, .slice A0_1 l0_1.length c0_1] 27 (0, 0))) := ⟨(by rw [hw]; exact (by (with_reducible repeat (first|refine Qa ?_ _|refine Qb ?_|refine Q7 ?_ _)); refine blk_far ?_ NB233_253.out _; (with_reducible repeat (first|refine Qa ?_ _|refine Qb ?_|refine Q7 ?_ _)); refine blk_far ?_ NB233_253.out _; (with_reducible repeat (first|refine Qa ?_ _|refine Qb ?_|refine Q7 ?_ _)); exact BK233.out))⟩; have n3_ : Aside0 (w92.heap[gb234]? = some (.cells #[.slice A1_0 l1_0.length c1_0, .slice A1_1 l1_1.length c1_1] 27 (0, 0))) := ⟨(by rw [hw]; exact (by (with_reducible repeat (first|refine Qa ?_ _|refine Qb ?_|refine Q7 ?_ _)); refine blk_far ?_ NB234_253.out _; (with_reducible repeat (first|refine Qa ?_ _|refine Qb ?_|refine Q7 ?_ _)); refine blk_far ?_ NB234_253.out _; (with_reducible repeat (first|refine Qa ?_ _|refine Qb ?_|refine Q7 ?_ _)); exact BK234.out))⟩; have n4_ : Aside0 (w92.heap[gb253]? = some (.cells #[.slice Ao87 t245.length co87, .slice Ao91 t248.length co91] 27 (0, 0))) := ⟨(by rw [hw]; exact (by (with_reducible repeat (first|refine Qa ?_ _|refine Qb ?_|refine Q7 ?_ _)); refine blk_put (cs := #[.slice Ao87 t245.length co87, .slice none 0 0]) ?_ 1 _ rfl; (with_reducible repeat (first|refine Qa ?_ _|refine Qb ?_|refine Q7 ?_ _)); refine blk_put (cs := #[.slice none 0 0, .slice none 0 0]) ?_ 0 _ rfl; (with_reducible repeat (first|refine Qa ?_ _|refine Qb ?_|refine Q7 ?_ _)); exact BK253.out))⟩; have n5_ : Aside0 (Below w.heap.size w w92) := ⟨(by rw [hw]; exact (by repeat (first | (with_reducible first|exact HB.out|apply Q8|apply Q5|apply Q9|refine Q6 ?_ GE233.out|refine Q6 ?_ GE234.out|refine Q6 ?_ GE253.out)|exact HB.out)))⟩; clear hw; clear HO247; clear HO250; clear BK233; clear BK234; clear BK253; clear HB; have HO247 := n0_; have HO250 := n1_; have BK233 := n2_; have BK234 := n3_; have BK253 := n4_; have HB := n5_; clear n0_ n1_ n2_ n3_ n4_ n5_; have hcz93_0 : w92.cell? ⟨gb233, 0, none⟩ = some (.slice A0_0 l0_0.length c0_0) := (blk_cell BK233.out 0).trans rfl; have hcz93_1 : w92.cell? ⟨gb233, 1, none⟩ = some (.slice A0_1 l0_1.length c0_1) := (blk_cell BK233.out 1).trans rfl; have hfz93_0 := blk_frozen BK233.out 0; have hfz93_1 := blk_frozen BK233.out 1) | ((with_reducible refine gate_callee (f := 18) rfl ?_); refine goesL_ (some 75) rfl rfl Try.func18 (by kernel_rfl) rfl #[.agg #[.slice A0_0 l0_0.length c0_0, .slice A0_1 l0_1.length c0_1], .slice A2 l2.length c2] rfl (by (try simp only [List.map_toArray, List.map_cons, List.map_nil]); first | done | rfl | (simp only [List.length_drop, List.length_take]; rfl)) ?_; (with_reducible refine (curtilageref05_Add.calls kj27 (fun k_ => k_ < w.heap.size) _ _ l0_0 (fun k_ => k_ < w.heap.size) _ _ l0_1 (fun k_ => k_ < w.heap.size) _ _ l2 t254 t257 t260 t261 _ ?side1 ?side2 ?side3 A54.out).mono ?_); (case side1 => exact Kd.V_mk HC0_0.out (Kd.F_below (Kd.C_F (Kd.heap_slice 57 k57_heap) HR0_0.out) (by repeat (first | (with_reducible first|exact HB.out|apply Q8|apply Q5|apply Q9|refine Q6 ?_ GE233.out|refine Q6 ?_ GE234.out|refine Q6 ?_ GE253.out)|exact HB.out)))); (case side2 => exact Kd.V_mk HC0_1.out (Kd.F_below (Kd.C_F (Kd.heap_int .i64) HR0_1.out) (by repeat (first | (with_reducible first|exact HB.out|apply Q8|apply Q5|apply Q9|refine Q6 ?_ GE233.out|refine Q6 ?_ GE234.out|refine Q6 ?_ GE253.out)|exact HB.out)))); (case side3 => exact Kd.V_mk HC2.out (Kd.F_below (Kd.C_F k57_heap HR2.out) (by repeat (first | (with_reducible first|exact HB.out|apply Q8|apply Q5|apply Q9|refine Q6 ?_ GE233.out|refine Q6 ?_ GE234.out|refine Q6 ?_ GE253.out)|exact HB.out)))); rintro e w94 ⟨v255, v258, rfl, ho0, ho1, hb⟩; refine ⟨_, rfl, ?_⟩; have n0_ := Q4 (Kd.V_below (by (with_reducible repeat (first|apply Kd.V_alloc|apply Kd.V_drewN|apply Kd.V_drew)); exact HO247.out) hb); have n1_ := Q4 (Kd.V_below (by (with_reducible repeat (first|apply Kd.V_alloc|apply Kd.V_drewN|apply Kd.V_drew)); exact HO250.out) hb); have n2_ := Q4 (Kd.V_lower (Kd.V_mono (ok' := fun k_ => k_ ≠ gb233 ∧ k_ ≠ gb234 ∧ k_ ≠ gb253) ho0 (fun k_ hk_ => ⟨Or.elim hk_ (fun hs_ => Or.elim hs_ (fun hs_ => fun e_ => Nat.not_le.2 hs_ (by rw [e_]; exact GW233.out)) (fun hs_ => Or.elim hs_ (fun hs_ => fun e_ => Nat.not_le.2 hs_ (by rw [e_]; exact GW233.out)) (fun hs_ => fun e_ => Nat.not_le.2 hs_ (by rw [e_]; exact GW233.out)))) (fun hn_ => (Kd.freshB (g := gb233) (o := .cells #[.slice A0_0 l0_0.length c0_0, .slice A0_1 l0_1.length c0_1] 27 (0, 0)) (by (with_reducible repeat (first|refine Qa ?_ _|refine Qb ?_|refine Q7 ?_ _)); exact BK233.out) k_ hn_)), Or.elim hk_ (fun hs_ => Or.elim hs_ (fun hs_ => fun e_ => Nat.not_le.2 hs_ (by rw [e_]; exact GW234.out)) (fun hs_ => Or.elim hs_ (fun hs_ => fun e_ => Nat.not_le.2 hs_ (by rw [e_]; exact GW234.out)) (fun hs_ => fun e_ => Nat.not_le.2 hs_ (by rw [e_]; exact GW234.out)))) (fun hn_ => (Kd.freshB (g := gb234) (o := .cells #[.slice A1_0 l1_0.length c1_0, .slice A1_1 l1_1.length c1_1] 27 (0, 0)) (by (with_reducible repeat (first|refine Qa ?_ _|refine Qb ?_|refine Q7 ?_ _)); exact BK234.out) k_ hn_)), Or.elim hk_ (fun hs_ => Or.elim hs_ (fun hs_ => fun e_ => Nat.not_le.2 hs_ (by rw [e_]; exact GW253.out)) (fun hs_ => Or.elim hs_ (fun hs_ => fun e_ => Nat.not_le.2 hs_ (by rw [e_]; exact GW253.out)) (fun hs_ => fun e_ => Nat.not_le.2 hs_ (by rw [e_]; exact GW253.out)))) (fun hn_ => (Kd.freshB (g := gb253) (o := .cells #[.slice Ao87 t245.length co87, .slice Ao91 t248.length co91] 27 (0, 0)) (by (with_reducible repeat (first|refine Qa ?_ _|refine Qb ?_|refine Q7 ?_ _)); exact BK253.out) k_ hn_))⟩)) (below_size (by repeat (first | (with_reducible first|exact HB.out|apply Q8|apply Q5|apply Q9|refine Q6 ?_ GE233.out|refine Q6 ?_ GE234.out|refine Q6 ?_ GE253.out)|exact HB.out)))); have n3_ := Q4 (Kd.V_lower (Kd.V_mono (ok' := fun k_ => k_ ≠ gb233 ∧ k_ ≠ gb234 ∧ k_ ≠ gb253) ho1 (fun k_ hk_ => ⟨Or.elim hk_ (fun hs_ => Or.elim hs_ (fun hs_ => fun e_ => Nat.not_le.2 hs_ (by rw [e_]; exact GW233.out)) (fun hs_ => Or.elim hs_ (fun hs_ => fun e_ => Nat.not_le.2 hs_ (by rw [e_]; exact GW233.out)) (fun hs_ => fun e_ => Nat.not_le.2 hs_ (by rw [e_]; exact GW233.out)))) (fun hn_ => (Kd.freshB (g := gb233) (o := .cells #[.slice A0_0 l0_0.length c0_0, .slice A0_1 l0_1.length c0_1] 27 (0, 0)) (by (with_reducible repeat (first|refine Qa ?_ _|refine Qb ?_|refine Q7 ?_ _)); exact BK233.out) k_ hn_)), Or.elim hk_ (fun hs_ => Or.elim hs_ (fun hs_ => fun e_ => Nat.not_le.2 hs_ (by rw [e_]; exact GW234.out)) (fun hs_ => Or.elim hs_ (fun hs_ => fun e_ => Nat.not_le.2 hs_ (by rw [e_]; exact GW234.out)) (fun hs_ => fun e_ => Nat.not_le.2 hs_ (by rw [e_]; exact GW234.out)))) (fun hn_ => (Kd.freshB (g := gb234) (o := .cells #[.slice A1_0 l1_0.length c1_0, .slice A1_1 l1_1.length c1_1] 27 (0, 0)) (by (with_reducible repeat (first|refine Qa ?_ _|refine Qb ?_|refine Q7 ?_ _)); exact BK234.out) k_ hn_)), Or.elim hk_ (fun hs_ => Or.elim hs_ (fun hs_ => fun e_ => Nat.not_le.2 hs_ (by rw [e_]; exact GW253.out)) (fun hs_ => Or.elim hs_ (fun hs_ => fun e_ => Nat.not_le.2 hs_ (by rw [e_]; exact GW253.out)) (fun hs_ => fun e_ => Nat.not_le.2 hs_ (by rw [e_]; exact GW253.out)))) (fun hn_ => (Kd.freshB (g := gb253) (o := .cells #[.slice Ao87 t245.length co87, .slice Ao91 t248.length co91] 27 (0, 0)) (by (with_reducible repeat (first|refine Qa ?_ _|refine Qb ?_|refine Q7 ?_ _)); exact BK253.out) k_ hn_))⟩)) (below_size (by repeat (first | (with_reducible first|exact HB.out|apply Q8|apply Q5|apply Q9|refine Q6 ?_ GE233.out|refine Q6 ?_ GE234.out|refine Q6 ?_ GE253.out)|exact HB.out)))); have n4_ := Q4 (blk_below (g := gb233) (o := .cells #[.slice A0_0 l0_0.length c0_0, .slice A0_1 l0_1.length c0_1] 27 (0, 0)) (by (with_reducible repeat (first|refine Qa ?_ _|refine Qb ?_|refine Q7 ?_ _)); exact BK233.out) hb); have n5_ := Q4 (blk_below (g := gb234) (o := .cells #[.slice A1_0 l1_0.length c1_0, .slice A1_1 l1_1.length c1_1] 27 (0, 0)) (by (with_reducible repeat (first|refine Qa ?_ _|refine Qb ?_|refine Q7 ?_ _)); exact BK234.out) hb); have n6_ := Q4 (blk_below (g := gb253) (o := .cells #[.slice Ao87 t245.length co87, .slice Ao91 t248.length co91] 27 (0, 0)) (by (with_reducible repeat (first|refine Qa ?_ _|refine Qb ?_|refine Q7 ?_ _)); exact BK253.out) hb); have n7_ := Q4 (below_step (by repeat (first | (with_reducible first|exact HB.out|apply Q8|apply Q5|apply Q9|refine Q6 ?_ GE233.out|refine Q6 ?_ GE234.out|refine Q6 ?_ GE253.out)|exact HB.out)) hb); clear HO247; clear HO250; clear BK233; clear BK234; clear BK253; clear HB; have HO247 := n0_; have HO250 := n1_; have HO256 := n2_; have HO259 := n3_; have BK233 := n4_; have BK234 := n5_; have BK253 := n6_; have HB := n7_; clear n0_ n1_ n2_ n3_ n4_ n5_ n6_ n7_; (try clear hb); (try clear hb2); (try clear hk); (try clear hi); (try clear ho0); (try clear ho1)) | ((with_reducible refine gate_dst (N := 12) rfl ?_); (try (refine gate_guard (by rfl) ?_; dsimp only)); refine box_event ?hg (N := 12) ?hd (cs := #[.slice none 0 0, .slice none 0 0]) (t := 27) ?hr ?_; (case hd => rfl); (case hg => rfl); (case hr => first | (go_simp; done) | (go_simp; rfl)); intro gb262 hg w95 hbox hb; have n0_ := Q4 (Kd.V_below (Kd.V_elderB (by (with_reducible repeat (first|apply Kd.V_alloc|apply Kd.V_drewN|apply Kd.V_drew)); exact HO247.out) gb262 (Nat.le_of_eq hg.symm)) hb); have n1_ := Q4 (Kd.V_below (Kd.V_elderB (by (with_reducible repeat (first|apply Kd.V_alloc|apply Kd.V_drewN|apply Kd.V_drew)); exact HO250.out) gb262 (Nat.le_of_eq hg.symm)) hb); have n2_ := Q4 (Kd.V_below (Kd.V_elderB (by (with_reducible repeat (first|apply Kd.V_alloc|apply Kd.V_drewN|apply Kd.V_drew)); exact HO256.out) gb262 (Nat.le_of_eq hg.symm)) hb); have n3_ := Q4 (Kd.V_below (Kd.V_elderB (by (with_reducible repeat (first|apply Kd.V_alloc|apply Kd.V_drewN|apply Kd.V_drew)); exact HO259.out) gb262 (Nat.le_of_eq hg.symm)) hb); have n4_ := Q4 (blk_below (g := gb233) (o := .cells #[.slice A0_0 l0_0.length c0_0, .slice A0_1 l0_1.length c0_1] 27 (0, 0)) (by (with_reducible repeat (first|refine Qa ?_ _|refine Qb ?_|refine Q7 ?_ _)); exact BK233.out) hb); have n5_ := Q4 (blk_below (g := gb234) (o := .cells #[.slice A1_0 l1_0.length c1_0, .slice A1_1 l1_1.length c1_1] 27 (0, 0)) (by (with_reducible repeat (first|refine Qa ?_ _|refine Qb ?_|refine Q7 ?_ _)); exact BK234.out) hb); have n6_ := Q4 (blk_below (g := gb253) (o := .cells #[.slice Ao87 t245.length co87, .slice Ao91 t248.length co91] 27 (0, 0)) (by (with_reducible repeat (first|refine Qa ?_ _|refine Qb ?_|refine Q7 ?_ _)); exact BK253.out) hb); have n7_ := Q4 (below_step (by repeat (first | (with_reducible first|exact HB.out|apply Q8|apply Q5|apply Q9|refine Q6 ?_ GE233.out|refine Q6 ?_ GE234.out|refine Q6 ?_ GE253.out)|exact HB.out)) hb); have n8_ := Q4 (hbox); have n9_ := Q4 ((by rw [hg]; exact (below_size (by repeat (first | (with_reducible first|exact HB.out|apply Q8|apply Q5|apply Q9|refine Q6 ?_ GE233.out|refine Q6 ?_ GE234.out|refine Q6 ?_ GE253.out)|exact HB.out))) : w.heap.size ≤ gb262)); have n10_ := Q4 ((by rw [hg]; exact (below_size (by repeat (first | (with_reducible first|exact HB.out|apply Q8|apply Q5|apply Q9|refine Q6 ?_ GE233.out|refine Q6 ?_ GE234.out|refine Q6 ?_ GE253.out)|exact HB.out))) : w.heap.size ≤ gb262)); have n11_ := Q4 ((by rw [hg]; exact Nat.ne_of_lt (blk_lt (g := gb233) (o := .cells #[.slice A0_0 l0_0.length c0_0, .slice A0_1 l0_1.length c0_1] 27 (0, 0)) (by (with_reducible repeat (first|refine Qa ?_ _|refine Qb ?_|refine Q7 ?_ _)); exact BK233.out)) : gb233 ≠ gb262)); have n12_ := Q4 ((by rw [hg]; exact Nat.ne_of_gt (blk_lt (g := gb233) (o := .cells #[.slice A0_0 l0_0.length c0_0, .slice A0_1 l0_1.length c0_1] 27 (0, 0)) (by (with_reducible repeat (first|refine Qa ?_ _|refine Qb ?_|refine Q7 ?_ _)); exact BK233.out)) : gb262 ≠ gb233)); have n13_ := Q4 ((by rw [hg]; exact Nat.ne_of_lt (blk_lt (g := gb234) (o := .cells #[.slice A1_0 l1_0.length c1_0, .slice A1_1 l1_1.length c1_1] 27 (0, 0)) (by (with_reducible repeat (first|refine Qa ?_ _|refine Qb ?_|refine Q7 ?_ _)); exact BK234.out)) : gb234 ≠ gb262)); have n14_ := Q4 ((by rw [hg]; exact Nat.ne_of_gt (blk_lt (g := gb234) (o := .cells #[.slice A1_0 l1_0.length c1_0, .slice A1_1 l1_1.length c1_1] 27 (0, 0)) (by (with_reducible repeat (first|refine Qa ?_ _|refine Qb ?_|refine Q7 ?_ _)); exact BK234.out)) : gb262 ≠ gb234)); have n15_ := Q4 ((by rw [hg]; exact Nat.ne_of_lt (blk_lt (g := gb253) (o := .cells #[.slice Ao87 t245.length co87, .slice Ao91 t248.length co91] 27 (0, 0)) (by (with_reducible repeat (first|refine Qa ?_ _|refine Qb ?_|refine Q7 ?_ _)); exact BK253.out)) : gb253 ≠ gb262)); have n16_ := Q4 ((by rw [hg]; exact Nat.ne_of_gt (blk_lt (g := gb253) (o := .cells #[.slice Ao87 t245.length co87, .slice Ao91 t248.length co91] 27 (0, 0)) (by (with_reducible repeat (first|refine Qa ?_ _|refine Qb ?_|refine Q7 ?_ _)); exact BK253.out)) : gb262 ≠ gb253)); clear HO247; clear HO250; clear HO256; clear HO259; clear BK233; clear BK234; clear BK253; clear HB; have HO247 := n0_; have HO250 := n1_; have HO256 := n2_; have HO259 := n3_; have BK233 := n4_; have BK234 := n5_; have BK253 := n6_; have HB := n7_; have BK262 := n8_; have GW262 := n9_; have GE262 := n10_; have NB233_262 := n11_; have NB262_233 := n12_; have NB234_262 := n13_; have NB262_234 := n14_; have NB253_262 := n15_; have NB262_253 := n16_; clear n0_ n1_ n2_ n3_ n4_ n5_ n6_ n7_ n8_ n9_ n10_ n11_ n12_ n13_ n14_ n15_ n16_; clear hb hbox hg; obtain ⟨Ao96, co96, eo96⟩ := Kd.V_slice HO256.out; subst eo96; have hnb97 := NB262_233.out; have hnc97 := NB233_262.out; have hnb98 := NB262_234.out; have hnc98 := NB234_262.out; have hnb99 := NB262_253.out; have hnc99 := NB253_262.out; have hcz100_0 : w95.cell? ⟨gb262, 0, none⟩ = some (.slice none 0 0) := (blk_cell BK262.out 0).trans rfl; have hcz100_1 : w95.cell? ⟨gb262, 1, none⟩ = some (.slice none 0 0) := (blk_cell BK262.out 1).trans rfl; have hfz100_0 := blk_frozen BK262.out 0; have hfz100_1 := blk_frozen BK262.out 1; obtain ⟨Ao101, co101, eo101⟩ := Kd.V_slice HO259.out; subst eo101) | ((with_reducible refine gate_store (t := 27) (p := 12) rfl ?_); refine store_event (t := 27) (p := 12) (v := ?vo_w102) (w1 := ((w95.setCell ⟨gb262, 0, none⟩ (.slice Ao96 t254.length co96)).setCell ⟨gb262, 1, none⟩ (.slice Ao101 t257.length co101))) ?hg ?ho ?hn ?hr ?_; (case ho => rfl); (case hg => rfl); (case hn => rfl); (case hr => first | (go_simp; done) | (go_simp; rfl)); intro w102 hw; have n0_ : Aside0 (Kd.V (Kd.slice 57 k57) 29 w102 w.heap.size (fun k_ => k_ ≠ gb233 ∧ k_ ≠ gb234 ∧ k_ ≠ gb253 ∧ k_ ≠ gb262) (.slice Ao87 t245.length co87) t245) := ⟨(by rw [hw]; exact (by (with_reducible repeat (first|apply Kd.V_alloc|apply Kd.V_drewN|apply Kd.V_drew)); exact Kd.V_mono (Kd.V_far (p := ⟨gb262, 1, none⟩) (Kd.V_far (p := ⟨gb262, 0, none⟩) (Kd.V_mono HO247.out (fun k_ hk => (⟨hk, hk.2⟩ : _ ∧ k_ ≠ gb262))) (fun _ hk => hk.2) (.slice Ao96 t254.length co96)) (fun _ hk => hk.2) (.slice Ao101 t257.length co101)) (fun _ hk => ⟨hk.1.1.1, ⟨hk.1.1.2.1, ⟨hk.1.1.2.2, hk.1.2⟩⟩⟩)))⟩; have n1_ : Aside0 (Kd.V (Kd.int .i64) 3 w102 w.heap.size (fun k_ => k_ ≠ gb233 ∧ k_ ≠ gb234 ∧ k_ ≠ gb253 ∧ k_ ≠ gb262) (.slice Ao91 t248.length co91) t248) := ⟨(by rw [hw]; exact (by (with_reducible repeat (first|apply Kd.V_alloc|apply Kd.V_drewN|apply Kd.V_drew)); exact Kd.V_mono (Kd.V_far (p := ⟨gb262, 1, none⟩) (Kd.V_far (p := ⟨gb262, 0, none⟩) (Kd.V_mono HO250.out (fun k_ hk => (⟨hk, hk.2⟩ : _ ∧ k_ ≠ gb262))) (fun _ hk => hk.2) (.slice Ao96 t254.length co96)) (fun _ hk => hk.2) (.slice Ao101 t257.length co101)) (fun _ hk => ⟨hk.1.1.1, ⟨hk.1.1.2.1, ⟨hk.1.1.2.2, hk.1.2⟩⟩⟩)))⟩; have n2_ : Aside0 (Kd.V (Kd.slice 57 k57) 29 w102 w.heap.size (fun k_ => k_ ≠ gb233 ∧ k_ ≠ gb234 ∧ k_ ≠ gb253 ∧ k_ ≠ gb262) (.slice Ao96 t254.length co96) t254) := ⟨(by rw [hw]; exact (by (with_reducible repeat (first|apply Kd.V_alloc|apply Kd.V_drewN|apply Kd.V_drew)); exact Kd.V_mono (Kd.V_far (p := ⟨gb262, 1, none⟩) (Kd.V_far (p := ⟨gb262, 0, none⟩) (Kd.V_mono HO256.out (fun k_ hk => (⟨hk, hk.2⟩ : _ ∧ k_ ≠ gb262))) (fun _ hk => hk.2) (.slice Ao96 t254.length co96)) (fun _ hk => hk.2) (.slice Ao101 t257.length co101)) (fun _ hk => ⟨hk.1.1.1, ⟨hk.1.1.2.1, ⟨hk.1.1.2.2, hk.1.2⟩⟩⟩)))⟩; have n3_ : Aside0 (Kd.V (Kd.int .i64) 3 w102 w.heap.size (fun k_ => k_ ≠ gb233 ∧ k_ ≠ gb234 ∧ k_ ≠ gb253 ∧ k_ ≠ gb262) (.slice Ao101 t257.length co101) t257) := ⟨(by rw [hw]; exact (by (with_reducible repeat (first|apply Kd.V_alloc|apply Kd.V_drewN|apply Kd.V_drew)); exact Kd.V_mono (Kd.V_far (p := ⟨gb262, 1, none⟩) (Kd.V_far (p := ⟨gb262, 0, none⟩) (Kd.V_mono HO259.out (fun k_ hk => (⟨hk, hk.2⟩ : _ ∧ k_ ≠ gb262))) (fun _ hk => hk.2) (.slice Ao96 t254.length co96)) (fun _ hk => hk.2) (.slice Ao101 t257.length co101)) (fun _ hk => ⟨hk.1.1.1, ⟨hk.1.1.2.1, ⟨hk.1.1.2.2, hk.1.2⟩⟩⟩)))⟩; have n4_ : Aside0 (w102.heap[gb233]? = some (.cells #[.slice A0_0 l0_0.length c0_0, .slice A0_1 l0_1.length c0_1] 27 (0, 0))) := ⟨(by rw [hw]; exact (by (with_reducible repeat (first|refine Qa ?_ _|refine Qb ?_|refine Q7 ?_ _)); refine blk_far ?_ NB233_262.out _; (with_reducible repeat (first|refine Qa ?_ _|refine Qb ?_|refine Q7 ?_ _)); refine blk_far ?_ NB233_262.out _; (with_reducible repeat (first|refine Qa ?_ _|refine Qb ?_|refine Q7 ?_ _)); exact BK233.out))⟩; have n5_ : Aside0 (w102.heap[gb234]? = some (.cells #[.slice A1_0 l1_0.length c1_0, .slice A1_1 l1_1.length c1_1] 27 (0, 0))) := ⟨(by rw [hw]; exact (by (with_reducible repeat (first|refine Qa ?_ _|refine Qb ?_|refine Q7 ?_ _)); refine blk_far ?_ NB234_262.out _; (with_reducible repeat (first|refine Qa ?_ _|refine Qb ?_|refine Q7 ?_ _)); refine blk_far ?_ NB234_262.out _; (with_reducible repeat (first|refine Qa ?_ _|refine Qb ?_|refine Q7 ?_ _)); exact BK234.out))⟩; have n6_ : Aside0 (w102.heap[gb253]? = some (.cells #[.slice Ao87 t245.length co87, .slice Ao91 t248.length co91] 27 (0, 0))) := ⟨(by rw [hw]; exact (by (with_reducible repeat (first|refine Qa ?_ _|refine Qb ?_|refine Q7 ?_ _)); refine blk_far ?_ NB253_262.out _; (with_reducible repeat (first|refine Qa ?_ _|refine Qb ?_|refine Q7 ?_ _)); refine blk_far ?_ NB253_262.out _; (with_reducible repeat (first|refine Qa ?_ _|refine Qb ?_|refine Q7 ?_ _)); exact BK253.out))⟩; have n7_ : Aside0 (w102.heap[gb262]? = some (.cells #[.slice Ao96 t254.length co96, .slice Ao101 t257.length co101] 27 (0, 0))) := ⟨(by rw [hw]; exact (by (with_reducible repeat (first|refine Qa ?_ _|refine Qb ?_|refine Q7 ?_ _)); refine blk_put (cs := #[.slice Ao96 t254.length co96, .slice none 0 0]) ?_ 1 _ rfl; (with_reducible repeat (first|refine Qa ?_ _|refine Qb ?_|refine Q7 ?_ _)); refine blk_put (cs := #[.slice none 0 0, .slice none 0 0]) ?_ 0 _ rfl; (with_reducible repeat (first|refine Qa ?_ _|refine Qb ?_|refine Q7 ?_ _)); exact BK262.out))⟩; have n8_ : Aside0 (Below w.heap.size w w102) := ⟨(by rw [hw]; exact (by repeat (first | (with_reducible first|exact HB.out|apply Q8|apply Q5|apply Q9|refine Q6 ?_ GE233.out|refine Q6 ?_ GE234.out|refine Q6 ?_ GE253.out|refine Q6 ?_ GE262.out)|exact HB.out)))⟩; clear hw; clear HO247; clear HO250; clear HO256; clear HO259; clear BK233; clear BK234; clear BK253; clear BK262; clear HB; have HO247 := n0_; have HO250 := n1_; have HO256 := n2_; have HO259 := n3_; have BK233 := n4_; have BK234 := n5_; have BK253 := n6_; have BK262 := n7_; have HB := n8_; clear n0_ n1_ n2_ n3_ n4_ n5_ n6_ n7_ n8_; have hcz103_0 : w102.cell? ⟨gb233, 0, none⟩ = some (.slice A0_0 l0_0.length c0_0) := (blk_cell BK233.out 0).trans rfl; have hcz103_1 : w102.cell? ⟨gb233, 1, none⟩ = some (.slice A0_1 l0_1.length c0_1) := (blk_cell BK233.out 1).trans rfl; have hfz103_0 := blk_frozen BK233.out 0; have hfz103_1 := blk_frozen BK233.out 1) | ((with_reducible refine gate_callee (f := 9) rfl ?_); refine goesL_ (some 82) rfl rfl Try.func9 (by kernel_rfl) rfl #[.agg #[.slice A0_0 l0_0.length c0_0, .slice A0_1 l0_1.length c0_1], .int .i64 a3] rfl (by (try simp only [List.map_toArray, List.map_cons, List.map_nil]); first | done | rfl | (simp only [List.length_drop, List.length_take]; rfl)) ?_; (with_reducible refine (intern_Drop.calls (fun k_ => k_ < w.heap.size) _ _ l0_0 (fun k_ => k_ < w.heap.size) _ _ l0_1 a3 t263 t266 t269 _ ?side1 ?side2 A55.out).mono ?_); (case side1 => exact Kd.V_mk HC0_0.out (Kd.F_below (Kd.C_F (Kd.heap_slice 57 k57_heap) HR0_0.out) (by repeat (first | (with_reducible first|exact HB.out|apply Q8|apply Q5|apply Q9|refine Q6 ?_ GE233.out|refine Q6 ?_ GE234.out|refine Q6 ?_ GE253.out|refine Q6 ?_ GE262.out)|exact HB.out)))); (case side2 => exact Kd.V_mk HC0_1.out (Kd.F_below (Kd.C_F (Kd.heap_int .i64) HR0_1.out) (by repeat (first | (with_reducible first|exact HB.out|apply Q8|apply Q5|apply Q9|refine Q6 ?_ GE233.out|refine Q6 ?_ GE234.out|refine Q6 ?_ GE253.out|refine Q6 ?_ GE262.out)|exact HB.out)))); rintro e w104 ⟨v264, v267, rfl, ho0, ho1, hb⟩; refine ⟨_, rfl, ?_⟩; have n0_ := Q4 (Kd.V_below (by (with_reducible repeat (first|apply Kd.V_alloc|apply Kd.V_drewN|apply Kd.V_drew)); exact HO247.out) hb); have n1_ := Q4 (Kd.V_below (by (with_reducible repeat (first|apply Kd.V_alloc|apply Kd.V_drewN|apply Kd.V_drew)); exact HO250.out) hb); have n2_ := Q4 (Kd.V_below (by (with_reducible repeat (first|apply Kd.V_alloc|apply Kd.V_drewN|apply Kd.V_drew)); exact HO256.out) hb); have n3_ := Q4 (Kd.V_below (by (with_reducible repeat (first|apply Kd.V_alloc|apply Kd.V_drewN|apply Kd.V_drew)); exact HO259.out) hb); have n4_ := Q4 (Kd.V_lower (Kd.V_mono (ok' := fun k_ => k_ ≠ gb233 ∧ k_ ≠ gb234 ∧ k_ ≠ gb253 ∧ k_ ≠ gb262) ho0 (fun k_ hk_ => ⟨Or.elim hk_ (fun hs_ => Or.elim hs_ (fun hs_ => fun e_ => Nat.not_le.2 hs_ (by rw [e_]; exact GW233.out)) (fun hs_ => fun e_ => Nat.not_le.2 hs_ (by rw [e_]; exact GW233.out))) (fun hn_ => (Kd.freshB (g := gb233) (o := .cells #[.slice A0_0 l0_0.length c0_0, .slice A0_1 l0_1.length c0_1] 27 (0, 0)) (by (with_reducible repeat (first|refine Qa ?_ _|refine Qb ?_|refine Q7 ?_ _)); exact BK233.out) k_ hn_)), Or.elim hk_ (fun hs_ => Or.elim hs_ (fun hs_ => fun e_ => Nat.not_le.2 hs_ (by rw [e_]; exact GW234.out)) (fun hs_ => fun e_ => Nat.not_le.2 hs_ (by rw [e_]; exact GW234.out))) (fun hn_ => (Kd.freshB (g := gb234) (o := .cells #[.slice A1_0 l1_0.length c1_0, .slice A1_1 l1_1.length c1_1] 27 (0, 0)) (by (with_reducible repeat (first|refine Qa ?_ _|refine Qb ?_|refine Q7 ?_ _)); exact BK234.out) k_ hn_)), Or.elim hk_ (fun hs_ => Or.elim hs_ (fun hs_ => fun e_ => Nat.not_le.2 hs_ (by rw [e_]; exact GW253.out)) (fun hs_ => fun e_ => Nat.not_le.2 hs_ (by rw [e_]; exact GW253.out))) (fun hn_ => (Kd.freshB (g := gb253) (o := .cells #[.slice Ao87 t245.length co87, .slice Ao91 t248.length co91] 27 (0, 0)) (by (with_reducible repeat (first|refine Qa ?_ _|refine Qb ?_|refine Q7 ?_ _)); exact BK253.out) k_ hn_)), Or.elim hk_ (fun hs_ => Or.elim hs_ (fun hs_ => fun e_ => Nat.not_le.2 hs_ (by rw [e_]; exact GW262.out)) (fun hs_ => fun e_ => Nat.not_le.2 hs_ (by rw [e_]; exact GW262.out))) (fun hn_ => (Kd.freshB (g := gb262) (o := .cells #[.slice Ao96 t254.length co96, .slice Ao101 t257.length co101] 27 (0, 0)) (by (with_reducible repeat (first|refine Qa ?_ _|refine Qb ?_|refine Q7 ?_ _)); exact BK262.out) k_ hn_))⟩)) (below_size (by repeat (first | (with_reducible first|exact HB.out|apply Q8|apply Q5|apply Q9|refine Q6 ?_ GE233.out|refine Q6 ?_ GE234.out|refine Q6 ?_ GE253.out|refine Q6 ?_ GE262.out)|exact HB.out)))); have n5_ := Q4 (Kd.V_lower (Kd.V_mono (ok' := fun k_ => k_ ≠ gb233 ∧ k_ ≠ gb234 ∧ k_ ≠ gb253 ∧ k_ ≠ gb262) ho1 (fun k_ hk_ => ⟨Or.elim hk_ (fun hs_ => Or.elim hs_ (fun hs_ => fun e_ => Nat.not_le.2 hs_ (by rw [e_]; exact GW233.out)) (fun hs_ => fun e_ => Nat.not_le.2 hs_ (by rw [e_]; exact GW233.out))) (fun hn_ => (Kd.freshB (g := gb233) (o := .cells #[.slice A0_0 l0_0.length c0_0, .slice A0_1 l0_1.length c0_1] 27 (0, 0)) (by (with_reducible repeat (first|refine Qa ?_ _|refine Qb ?_|refine Q7 ?_ _)); exact BK233.out) k_ hn_)), Or.elim hk_ (fun hs_ => Or.elim hs_ (fun hs_ => fun e_ => Nat.not_le.2 hs_ (by rw [e_]; exact GW234.out)) (fun hs_ => fun e_ => Nat.not_le.2 hs_ (by rw [e_]; exact GW234.out))) (fun hn_ => (Kd.freshB (g := gb234) (o := .cells #[.slice A1_0 l1_0.length c1_0, .slice A1_1 l1_1.length c1_1] 27 (0, 0)) (by (with_reducible repeat (first|refine Qa ?_ _|refine Qb ?_|refine Q7 ?_ _)); exact BK234.out) k_ hn_)), Or.elim hk_ (fun hs_ => Or.elim hs_ (fun hs_ => fun e_ => Nat.not_le.2 hs_ (by rw [e_]; exact GW253.out)) (fun hs_ => fun e_ => Nat.not_le.2 hs_ (by rw [e_]; exact GW253.out))) (fun hn_ => (Kd.freshB (g := gb253) (o := .cells #[.slice Ao87 t245.length co87, .slice Ao91 t248.length co91] 27 (0, 0)) (by (with_reducible repeat (first|refine Qa ?_ _|refine Qb ?_|refine Q7 ?_ _)); exact BK253.out) k_ hn_)), Or.elim hk_ (fun hs_ => Or.elim hs_ (fun hs_ => fun e_ => Nat.not_le.2 hs_ (by rw [e_]; exact GW262.out)) (fun hs_ => fun e_ => Nat.not_le.2 hs_ (by rw [e_]; exact GW262.out))) (fun hn_ => (Kd.freshB (g := gb262) (o := .cells #[.slice Ao96 t254.length co96, .slice Ao101 t257.length co101] 27 (0, 0)) (by (with_reducible repeat (first|refine Qa ?_ _|refine Qb ?_|refine Q7 ?_ _)); exact BK262.out) k_ hn_))⟩)) (below_size (by repeat (first | (with_reducible first|exact HB.out|apply Q8|apply Q5|apply Q9|refine Q6 ?_ GE233.out|refine Q6 ?_ GE234.out|refine Q6 ?_ GE253.out|refine Q6 ?_ GE262.out)|exact HB.out)))); have n6_ := Q4 (blk_below (g := gb233) (o := .cells #[.slice A0_0 l0_0.length c0_0, .slice A0_1 l0_1.length c0_1] 27 (0, 0)) (by (with_reducible repeat (first|refine Qa ?_ _|refine Qb ?_|refine Q7 ?_ _)); exact BK233.out) hb); have n7_ := Q4 (blk_below (g := gb234) (o := .cells #[.slice A1_0 l1_0.length c1_0, .slice A1_1 l1_1.length c1_1] 27 (0, 0)) (by (with_reducible repeat (first|refine Qa ?_ _|refine Qb ?_|refine Q7 ?_ _)); exact BK234.out) hb); have n8_ := Q4 (blk_below (g := gb253) (o := .cells #[.slice Ao87 t245.length co87, .slice Ao91 t248.length co91] 27 (0, 0)) (by (with_reducible repeat (first|refine Qa ?_ _|refine Qb ?_|refine Q7 ?_ _)); exact BK253.out) hb); have n9_ := Q4 (blk_below (g := gb262) (o := .cells #[.slice Ao96 t254.length co96, .slice Ao101 t257.length co101] 27 (0, 0)) (by (with_reducible repeat (first|refine Qa ?_ _|refine Qb ?_|refine Q7 ?_ _)); exact BK262.out) hb); have n10_ := Q4 (below_step (by repeat (first | (with_reducible first|exact HB.out|apply Q8|apply Q5|apply Q9|refine Q6 ?_ GE233.out|refine Q6 ?_ GE234.out|refine Q6 ?_ GE253.out|refine Q6 ?_ GE262.out)|exact HB.out)) hb); clear HO247; clear HO250; clear HO256; clear HO259; clear BK233; clear BK234; clear BK253; clear BK262; clear HB; have HO247 := n0_; have HO250 := n1_; have HO256 := n2_; have HO259 := n3_; have HO265 := n4_; have HO268 := n5_; have BK233 := n6_; have BK234 := n7_; have BK253 := n8_; have BK262 := n9_; have HB := n10_; clear n0_ n1_ n2_ n3_ n4_ n5_ n6_ n7_ n8_ n9_ n10_; (try clear hb); (try clear hb2); (try clear hk); (try clear hi); (try clear ho0); (try clear ho1)) | ((with_reducible refine gate_dst (N := 15) rfl ?_); (try (refine gate_guard (by rfl) ?_; dsimp only)); refine box_event ?hg (N := 15) ?hd (cs := #[.slice none 0 0, .slice none 0 0]) (t := 27) ?hr ?_; (case hd => rfl); (case hg => rfl); (case hr => first | (go_simp; done) | (go_simp; rfl)); intro gb270 hg w105 hbox hb; have n0_ := Q4 (Kd.V_below (Kd.V_elderB (by (with_reducible repeat (first|apply Kd.V_alloc|apply Kd.V_drewN|apply Kd.V_drew)); exact HO247.out) gb270 (Nat.le_of_eq hg.symm)) hb); have n1_ := Q4 (Kd.V_below (Kd.V_elderB (by (with_reducible repeat (first|apply Kd.V_alloc|apply Kd.V_drewN|apply Kd.V_drew)); exact HO250.out) gb270 (Nat.le_of_eq hg.symm)) hb); have n2_ := Q4 (Kd.V_below (Kd.V_elderB (by (with_reducible repeat (first|apply Kd.V_alloc|apply Kd.V_drewN|apply Kd.V_drew)); exact HO256.out) gb270 (Nat.le_of_eq hg.symm)) hb); have n3_ := Q4 (Kd.V_below (Kd.V_elderB (by (with_reducible repeat (first|apply Kd.V_alloc|apply Kd.V_drewN|apply Kd.V_drew)); exact HO259.out) gb270 (Nat.le_of_eq hg.symm)) hb); have n4_ := Q4 (Kd.V_below (Kd.V_elderB (by (with_reducible repeat (first|apply Kd.V_alloc|apply Kd.V_drewN|apply Kd.V_drew)); exact HO265.out) gb270 (Nat.le_of_eq hg.symm)) hb); have n5_ := Q4 (Kd.V_below (Kd.V_elderB (by (with_reducible repeat (first|apply Kd.V_alloc|apply Kd.V_drewN|apply Kd.V_drew)); exact HO268.out) gb270 (Nat.le_of_eq hg.symm)) hb); have n6_ := Q4 (blk_below (g := gb233) (o := .cells #[.slice A0_0 l0_0.length c0_0, .slice A0_1 l0_1.length c0_1] 27 (0, 0)) (by (with_reducible repeat (first|refine Qa ?_ _|refine Qb ?_|refine Q7 ?_ _)); exact BK233.out) hb); have n7_ := Q4 (blk_below (g := gb234) (o := .cells #[.slice A1_0 l1_0.length c1_0, .slice A1_1 l1_1.length c1_1] 27 (0, 0)) (by (with_reducible repeat (first|refine Qa ?_ _|refine Qb ?_|refine Q7 ?_ _)); exact BK234.out) hb); have n8_ := Q4 (blk_below (g := gb253) (o := .cells #[.slice Ao87 t245.length co87, .slice Ao91 t248.length co91] 27 (0, 0)) (by (with_reducible repeat (first|refine Qa ?_ _|refine Qb ?_|refine Q7 ?_ _)); exact BK253.out) hb); have n9_ := Q4 (blk_below (g := gb262) (o := .cells #[.slice Ao96 t254.length co96, .slice Ao101 t257.length co101] 27 (0, 0)) (by (with_reducible repeat (first|refine Qa ?_ _|refine Qb ?_|refine Q7 ?_ _)); exact BK262.out) hb); have n10_ := Q4 (below_step (by repeat (first | (with_reducible first|exact HB.out|apply Q8|apply Q5|apply Q9|refine Q6 ?_ GE233.out|refine Q6 ?_ GE234.out|refine Q6 ?_ GE253.out|refine Q6 ?_ GE262.out)|exact HB.out)) hb); have n11_ := Q4 (hbox); have n12_ := Q4 ((by rw [hg]; exact (below_size (by repeat (first | (with_reducible first|exact HB.out|apply Q8|apply Q5|apply Q9|refine Q6 ?_ GE233.out|refine Q6 ?_ GE234.out|refine Q6 ?_ GE253.out|refine Q6 ?_ GE262.out)|exact HB.out))) : w.heap.size ≤ gb270)); have n13_ := Q4 ((by rw [hg]; exact (below_size (by repeat (first | (with_reducible first|exact HB.out|apply Q8|apply Q5|apply Q9|refine Q6 ?_ GE233.out|refine Q6 ?_ GE234.out|refine Q6 ?_ GE253.out|refine Q6 ?_ GE262.out)|exact HB.out))) : w.heap.size ≤ gb270)); have n14_ := Q4 ((by rw [hg]; exact Nat.ne_of_lt (blk_lt (g := gb233) (o := .cells #[.slice A0_0 l0_0.length c0_0, .slice A0_1 l0_1.length c0_1] 27 (0, 0)) (by (with_reducible repeat (first|refine Qa ?_ _|refine Qb ?_|refine Q7 ?_ _)); exact BK233.out)) : gb233 ≠ gb270)); have n15_ := Q4 ((by rw [hg]; exact Nat.ne_of_gt (blk_lt (g := gb233) (o := .cells #[.slice A0_0 l0_0.length c0_0, .slice A0_1 l0_1.length c0_1] 27 (0, 0)) (by (with_reducible repeat (first|refine Qa ?_ _|refine Qb ?_|refine Q7 ?_ _)); exact BK233.out)) : gb270 ≠ gb233)); have n16_ := Q4 ((by rw [hg]; exact Nat.ne_of_lt (blk_lt (g := gb234) (o := .cells #[.slice A1_0 l1_0.length c1_0, .slice A1_1 l1_1.length c1_1] 27 (0, 0)) (by (with_reducible repeat (first|refine Qa ?_ _|refine Qb ?_|refine Q7 ?_ _)); exact BK234.out)) : gb234 ≠ gb270)); have n17_ := Q4 ((by rw [hg]; exact Nat.ne_of_gt (blk_lt (g := gb234) (o := .cells #[.slice A1_0 l1_0.length c1_0, .slice A1_1 l1_1.length c1_1] 27 (0, 0)) (by (with_reducible repeat (first|refine Qa ?_ _|refine Qb ?_|refine Q7 ?_ _)); exact BK234.out)) : gb270 ≠ gb234)); have n18_ := Q4 ((by rw [hg]; exact Nat.ne_of_lt (blk_lt (g := gb253) (o := .cells #[.slice Ao87 t245.length co87, .slice Ao91 t248.length co91] 27 (0, 0)) (by (with_reducible repeat (first|refine Qa ?_ _|refine Qb ?_|refine Q7 ?_ _)); exact BK253.out)) : gb253 ≠ gb270)); have n19_ := Q4 ((by rw [hg]; exact Nat.ne_of_gt (blk_lt (g := gb253) (o := .cells #[.slice Ao87 t245.length co87, .slice Ao91 t248.length co91] 27 (0, 0)) (by (with_reducible repeat (first|refine Qa ?_ _|refine Qb ?_|refine Q7 ?_ _)); exact BK253.out)) : gb270 ≠ gb253)); have n20_ := Q4 ((by rw [hg]; exact Nat.ne_of_lt (blk_lt (g := gb262) (o := .cells #[.slice Ao96 t254.length co96, .slice Ao101 t257.length co101] 27 (0, 0)) (by (with_reducible repeat (first|refine Qa ?_ _|refine Qb ?_|refine Q7 ?_ _)); exact BK262.out)) : gb262 ≠ gb270)); have n21_ := Q4 ((by rw [hg]; exact Nat.ne_of_gt (blk_lt (g := gb262) (o := .cells #[.slice Ao96 t254.length co96, .slice Ao101 t257.length co101] 27 (0, 0)) (by (with_reducible repeat (first|refine Qa ?_ _|refine Qb ?_|refine Q7 ?_ _)); exact BK262.out)) : gb270 ≠ gb262)); clear HO247; clear HO250; clear HO256; clear HO259; clear HO265; clear HO268; clear BK233; clear BK234; clear BK253; clear BK262; clear HB; have HO247 := n0_; have HO250 := n1_; have HO256 := n2_; have HO259 := n3_; have HO265 := n4_; have HO268 := n5_; have BK233 := n6_; have BK234 := n7_; have BK253 := n8_; have BK262 := n9_; have HB := n10_; have BK270 := n11_; have GW270 := n12_; have GE270 := n13_; have NB233_270 := n14_; have NB270_233 := n15_; have NB234_270 := n16_; have NB270_234 := n17_; have NB253_270 := n18_; have NB270_253 := n19_; have NB262_270 := n20_; have NB270_262 := n21_; clear n0_ n1_ n2_ n3_ n4_ n5_ n6_ n7_ n8_ n9_ n10_ n11_ n12_ n13_ n14_ n15_ n16_ n17_ n18_ n19_ n20_ n21_; clear hb hbox hg; obtain ⟨Ao106, co106, eo106⟩ := Kd.V_slice HO265.out; subst eo106; have hnb107 := NB270_233.out; have hnc107 := NB233_270.out; have hnb108 := NB270_234.out; have hnc108 := NB234_270.out; have hnb109 := NB270_253.out; have hnc109 := NB253_270.out; have hnb110 := NB270_262.out; have hnc110 := NB262_270.out; have hcz111_0 : w105.cell? ⟨gb270, 0, none⟩ = some (.slice none 0 0) := (blk_cell BK270.out 0).trans rfl; have hcz111_1 : w105.cell? ⟨gb270, 1, none⟩ = some (.slice none 0 0) := (blk_cell BK270.out 1).trans rfl; have hfz111_0 := blk_frozen BK270.out 0; have hfz111_1 := blk_frozen BK270.out 1; obtain ⟨Ao112, co112, eo112⟩ := Kd.V_slice HO268.out; subst eo112) | ((with_reducible refine gate_store (t := 27) (p := 15) rfl ?_); refine store_event (t := 27) (p := 15) (v := ?vo_w113) (w1 := ((w105.setCell ⟨gb270, 0, none⟩ (.slice Ao106 t263.length co106)).setCell ⟨gb270, 1, none⟩ (.slice Ao112 t266.length co112))) ?hg ?ho ?hn ?hr ?_; (case ho => rfl); (case hg => rfl); (case hn => rfl); (case hr => first | (go_simp; done) | (go_simp; rfl)); intro w113 hw; have n0_ : Aside0 (Kd.V (Kd.slice 57 k57) 29 w113 w.heap.size (fun k_ => k_ ≠ gb233 ∧ k_ ≠ gb234 ∧ k_ ≠ gb253 ∧ k_ ≠ gb262 ∧ k_ ≠ gb270) (.slice Ao87 t245.length co87) t245) := ⟨(by rw [hw]; exact (by (with_reducible repeat (first|apply Kd.V_alloc|apply Kd.V_drewN|apply Kd.V_drew)); exact Kd.V_mono (Kd.V_far (p := ⟨gb270, 1, none⟩) (Kd.V_far (p := ⟨gb270, 0, none⟩) (Kd.V_mono HO247.out (fun k_ hk => (⟨hk, hk.2⟩ : _ ∧ k_ ≠ gb270))) (fun _ hk => hk.2) (.slice Ao106 t263.length co106)) (fun _ hk => hk.2) (.slice Ao112 t266.length co112)) (fun _ hk => ⟨hk.1.1.1, ⟨hk.1.1.2.1, ⟨hk.1.1.2.2.1, ⟨hk.1.1.2.2.2, hk.1.2⟩⟩⟩⟩)))⟩; have n1_ : Aside0 (Kd.V (Kd.int .i64) 3 w113 w.heap.size (fun k_ => k_ ≠ gb233 ∧ k_ ≠ gb234 ∧ k_ ≠ gb253 ∧ k_ ≠ gb262 ∧ k_ ≠ gb270) (.slice Ao91 t248.length co91) t248) := ⟨(by rw [hw]; exact (by (with_reducible repeat (first|apply Kd.V_alloc|apply Kd.V_drewN|apply Kd.V_drew)); exact Kd.V_mono (Kd.V_far (p := ⟨gb270, 1, none⟩) (Kd.V_far (p := ⟨gb270, 0, none⟩) (Kd.V_mono HO250.out (fun k_ hk => (⟨hk, hk.2⟩ : _ ∧ k_ ≠ gb270))) (fun _ hk => hk.2) (.slice Ao106 t263.length co106)) (fun _ hk => hk.2) (.slice Ao112 t266.length co112)) (fun _ hk => ⟨hk.1.1.1, ⟨hk.1.1.2.1, ⟨hk.1.1.2.2.1, ⟨hk.1.1.2.2.2, hk.1.2⟩⟩⟩⟩)))⟩; have n2_ : Aside0 (Kd.V (Kd.slice 57 k57) 29 w113 w.heap.size (fun k_ => k_ ≠ gb233 ∧ k_ ≠ gb234 ∧ k_ ≠ gb253 ∧ k_ ≠ gb262 ∧ k_ ≠ gb270) (.slice Ao96 t254.length co96) t254) := ⟨(by rw [hw]; exact (by (with_reducible repeat (first|apply Kd.V_alloc|apply Kd.V_drewN|apply Kd.V_drew)); exact Kd.V_mono (Kd.V_far (p := ⟨gb270, 1, none⟩) (Kd.V_far (p := ⟨gb270, 0, none⟩) (Kd.V_mono HO256.out (fun k_ hk => (⟨hk, hk.2⟩ : _ ∧ k_ ≠ gb270))) (fun _ hk => hk.2) (.slice Ao106 t263.length co106)) (fun _ hk => hk.2) (.slice Ao112 t266.length co112)) (fun _ hk => ⟨hk.1.1.1, ⟨hk.1.1.2.1, ⟨hk.1.1.2.2.1, ⟨hk.1.1.2.2.2, hk.1.2⟩⟩⟩⟩)))⟩; have n3_ : Aside0 (Kd.V (Kd.int .i64) 3 w113 w.heap.size (fun k_ => k_ ≠ gb233 ∧ k_ ≠ gb234 ∧ k_ ≠ gb253 ∧ k_ ≠ gb262 ∧ k_ ≠ gb270) (.slice Ao101 t257.length co101) t257) := ⟨(by rw [hw]; exact (by (with_reducible repeat (first|apply Kd.V_alloc|apply Kd.V_drewN|apply Kd.V_drew)); exact Kd.V_mono (Kd.V_far (p := ⟨gb270, 1, none⟩) (Kd.V_far (p := ⟨gb270, 0, none⟩) (Kd.V_mono HO259.out (fun k_ hk => (⟨hk, hk.2⟩ : _ ∧ k_ ≠ gb270))) (fun _ hk => hk.2) (.slice Ao106 t263.length co106)) (fun _ hk => hk.2) (.slice Ao112 t266.length co112)) (fun _ hk => ⟨hk.1.1.1, ⟨hk.1.1.2.1, ⟨hk.1.1.2.2.1, ⟨hk.1.1.2.2.2, hk.1.2⟩⟩⟩⟩)))⟩; have n4_ : Aside0 (Kd.V (Kd.slice 57 k57) 29 w113 w.heap.size (fun k_ => k_ ≠ gb233 ∧ k_ ≠ gb234 ∧ k_ ≠ gb253 ∧ k_ ≠ gb262 ∧ k_ ≠ gb270) (.slice Ao106 t263.length co106) t263) := ⟨(by rw [hw]; exact (by (with_reducible repeat (first|apply Kd.V_alloc|apply Kd.V_drewN|apply Kd.V_drew)); exact Kd.V_mono (Kd.V_far (p := ⟨gb270, 1, none⟩) (Kd.V_far (p := ⟨gb270, 0, none⟩) (Kd.V_mono HO265.out (fun k_ hk => (⟨hk, hk.2⟩ : _ ∧ k_ ≠ gb270))) (fun _ hk => hk.2) (.slice Ao106 t263.length co106)) (fun _ hk => hk.2) (.slice Ao112 t266.length co112)) (fun _ hk => ⟨hk.1.1.1, ⟨hk.1.1.2.1, ⟨hk.1.1.2.2.1, ⟨hk.1.1.2.2.2, hk.1.2⟩⟩⟩⟩)))⟩; have n5_ : Aside0 (Kd.V (Kd.int .i64) 3 w113 w.heap.size (fun k_ => k_ ≠ gb233 ∧ k_ ≠ gb234 ∧ k_ ≠ gb253 ∧ k_ ≠ gb262 ∧ k_ ≠ gb270) (.slice Ao112 t266.length co112) t266) := ⟨(by rw [hw]; exact (by (with_reducible repeat (first|apply Kd.V_alloc|apply Kd.V_drewN|apply Kd.V_drew)); exact Kd.V_mono (Kd.V_far (p := ⟨gb270, 1, none⟩) (Kd.V_far (p := ⟨gb270, 0, none⟩) (Kd.V_mono HO268.out (fun k_ hk => (⟨hk, hk.2⟩ : _ ∧ k_ ≠ gb270))) (fun _ hk => hk.2) (.slice Ao106 t263.length co106)) (fun _ hk => hk.2) (.slice Ao112 t266.length co112)) (fun _ hk => ⟨hk.1.1.1, ⟨hk.1.1.2.1, ⟨hk.1.1.2.2.1, ⟨hk.1.1.2.2.2, hk.1.2⟩⟩⟩⟩)))⟩; have n6_ : Aside0 (w113.heap[gb233]? = some (.cells #[.slice A0_0 l0_0.length c0_0, .slice A0_1 l0_1.length c0_1] 27 (0, 0))) := ⟨(by rw [hw]; exact (by (with_reducible repeat (first|refine Qa ?_ _|refine Qb ?_|refine Q7 ?_ _)); refine blk_far ?_ NB233_270.out _; (with_reducible repeat (first|refine Qa ?_ _|refine Qb ?_|refine Q7 ?_ _)); refine blk_far ?_ NB233_270.out _; (with_reducible repeat (first|refine Qa ?_ _|refine Qb ?_|refine Q7 ?_ _)); exact BK233.out))⟩; have n7_ : Aside0 (w113.heap[gb234]? = some (.cells #[.slice A1_0 l1_0.length c1_0, .slice A1_1 l1_1.length c1_1] 27 (0, 0))) := ⟨(by rw [hw]; exact (by (with_reducible repeat (first|refine Qa ?_ _|refine Qb ?_|refine Q7 ?_ _)); refine blk_far ?_ NB234_270.out _; (with_reducible repeat (first|refine Qa ?_ _|refine Qb ?_|refine Q7 ?_ _)); refine blk_far ?_ NB234_270.out _; (with_reducible repeat (first|refine Qa ?_ _|refine Qb ?_|refine Q7 ?_ _)); exact BK234.out))⟩; have n8_ : Aside0 (w113.heap[gb253]? = some (.cells #[.slice Ao87 t245.length co87, .slice Ao91 t248.length co91] 27 (0, 0))) := ⟨(by rw [hw]; exact (by (with_reducible repeat (first|refine Qa ?_ _|refine Qb ?_|refine Q7 ?_ _)); refine blk_far ?_ NB253_270.out _; (with_reducible repeat (first|refine Qa ?_ _|refine Qb ?_|refine Q7 ?_ _)); refine blk_far ?_ NB253_270.out _; (with_reducible repeat (first|refine Qa ?_ _|refine Qb ?_|refine Q7 ?_ _)); exact BK253.out))⟩; have n9_ : Aside0 (w113.heap[gb262]? = some (.cells #[.slice Ao96 t254.length co96, .slice Ao101 t257.length co101] 27 (0, 0))) := ⟨(by rw [hw]; exact (by (with_reducible repeat (first|refine Qa ?_ _|refine Qb ?_|refine Q7 ?_ _)); refine blk_far ?_ NB262_270.out _; (with_reducible repeat (first|refine Qa ?_ _|refine Qb ?_|refine Q7 ?_ _)); refine blk_far ?_ NB262_270.out _; (with_reducible repeat (first|refine Qa ?_ _|refine Qb ?_|refine Q7 ?_ _)); exact BK262.out))⟩; have n10_ : Aside0 (w113.heap[gb270]? = some (.cells #[.slice Ao106 t263.length co106, .slice Ao112 t266.length co112] 27 (0, 0))) := ⟨(by rw [hw]; exact (by (with_reducible repeat (first|refine Qa ?_ _|refine Qb ?_|refine Q7 ?_ _)); refine blk_put (cs := #[.slice Ao106 t263.length co106, .slice none 0 0]) ?_ 1 _ rfl; (with_reducible repeat (first|refine Qa ?_ _|refine Qb ?_|refine Q7 ?_ _)); refine blk_put (cs := #[.slice none 0 0, .slice none 0 0]) ?_ 0 _ rfl; (with_reducible repeat (first|refine Qa ?_ _|refine Qb ?_|refine Q7 ?_ _)); exact BK270.out))⟩; have n11_ : Aside0 (Below w.heap.size w w113) := ⟨(by rw [hw]; exact (by repeat (first | (with_reducible first|exact HB.out|apply Q8|apply Q5|apply Q9|refine Q6 ?_ GE233.out|refine Q6 ?_ GE234.out|refine Q6 ?_ GE253.out|refine Q6 ?_ GE262.out|refine Q6 ?_ GE270.out)|exact HB.out)))⟩; clear hw; clear HO247; clear HO250; clear HO256; clear HO259; clear HO265; clear HO268; clear BK233; clear BK234; clear BK253; clear BK262; clear BK270; clear HB; have HO247 := n0_; have HO250 := n1_; have HO256 := n2_; have HO259 := n3_; have HO265 := n4_; have HO268 := n5_; have BK233 := n6_; have BK234 := n7_; have BK253 := n8_; have BK262 := n9_; have BK270 := n10_; have HB := n11_; clear n0_ n1_ n2_ n3_ n4_ n5_ n6_ n7_ n8_ n9_ n10_ n11_; have hcz114_0 : w113.cell? ⟨gb233, 0, none⟩ = some (.slice A0_0 l0_0.length c0_0) := (blk_cell BK233.out 0).trans rfl; have hcz114_1 : w113.cell? ⟨gb233, 1, none⟩ = some (.slice A0_1 l0_1.length c0_1) := (blk_cell BK233.out 1).trans rfl; have hfz114_0 := blk_frozen BK233.out 0; have hfz114_1 := blk_frozen BK233.out 1) | ((with_reducible refine gate_callee (f := 19) rfl ?_); refine goesL_ (some 88) rfl rfl Try.func19 (by kernel_rfl) rfl #[.agg #[.slice A0_0 l0_0.length c0_0, .slice A0_1 l0_1.length c0_1], .int .i64 a3] rfl (by (try simp only [List.map_toArray, List.map_cons, List.map_nil]); first | done | rfl | (simp only [List.length_drop, List.length_take]; rfl)) ?_; (with_reducible refine (curtilageref05_Drop.calls kj27 (fun k_ => k_ < w.heap.size) _ _ l0_0 (fun k_ => k_ < w.heap.size) _ _ l0_1 a3 t271 t274 t277 _ ?side1 ?side2 A56.out).mono ?_); (case side1 => exact Kd.V_mk HC0_0.out (Kd.F_below (Kd.C_F (Kd.heap_slice 57 k57_heap) HR0_0.out) (by repeat (first | (with_reducible first|exact HB.out|apply Q8|apply Q5|apply Q9|refine Q6 ?_ GE233.out|refine Q6 ?_ GE234.out|refine Q6 ?_ GE253.out|refine Q6 ?_ GE262.out|refine Q6 ?_ GE270.out)|exact HB.out)))); (case side2 => exact Kd.V_mk HC0_1.out (Kd.F_below (Kd.C_F (Kd.heap_int .i64) HR0_1.out) (by repeat (first | (with_reducible first|exact HB.out|apply Q8|apply Q5|apply Q9|refine Q6 ?_ GE233.out|refine Q6 ?_ GE234.out|refine Q6 ?_ GE253.out|refine Q6 ?_ GE262.out|refine Q6 ?_ GE270.out)|exact HB.out)))); rintro e w115 ⟨v272, v275, rfl, ho0, ho1, hb⟩; refine ⟨_, rfl, ?_⟩; have n0_ := Q4 (Kd.V_below (by (with_reducible repeat (first|apply Kd.V_alloc|apply Kd.V_drewN|apply Kd.V_drew)); exact HO247.out) hb); have n1_ := Q4 (Kd.V_below (by (with_reducible repeat (first|apply Kd.V_alloc|apply Kd.V_drewN|apply Kd.V_drew)); exact HO250.out) hb); have n2_ := Q4 (Kd.V_below (by (with_reducible repeat (first|apply Kd.V_alloc|apply Kd.V_drewN|apply Kd.V_drew)); exact HO256.out) hb); have n3_ := Q4 (Kd.V_below (by (with_reducible repeat (first|apply Kd.V_alloc|apply Kd.V_drewN|apply Kd.V_drew)); exact HO259.out) hb); have n4_ := Q4 (Kd.V_below (by (with_reducible repeat (first|apply Kd.V_alloc|apply Kd.V_drewN|apply Kd.V_drew)); exact HO265.out) hb); have n5_ := Q4 (Kd.V_below (by (with_reducible repeat (first|apply Kd.V_alloc|apply Kd.V_drewN|apply Kd.V_drew)); exact HO268.out) hb); have n6_ := Q4 (Kd.V_lower (Kd.V_mono (ok' := fun k_ => k_ ≠ gb233 ∧ k_ ≠ gb234 ∧ k_ ≠ gb253 ∧ k_ ≠ gb262 ∧ k_ ≠ gb270) ho0 (fun k_ hk_ => ⟨Or.elim hk_ (fun hs_ => Or.elim hs_ (fun hs_ => fun e_ => Nat.not_le.2 hs_ (by rw [e_]; exact GW233.out)) (fun hs_ => fun e_ => Nat.not_le.2 hs_ (by rw [e_]; exact GW233.out))) (fun hn_ => (Kd.freshB (g := gb233) (o := .cells #[.slice A0_0 l0_0.length c0_0, .slice A0_1 l0_1.length c0_1] 27 (0, 0)) (by (with_reducible repeat (first|refine Qa ?_ _|refine Qb ?_|refine Q7 ?_ _)); exact BK233.out) k_ hn_)), Or.elim hk_ (fun hs_ => Or.elim hs_ (fun hs_ => fun e_ => Nat.not_le.2 hs_ (by rw [e_]; exact GW234.out)) (fun hs_ => fun e_ => Nat.not_le.2 hs_ (by rw [e_]; exact GW234.out))) (fun hn_ => (Kd.freshB (g := gb234) (o := .cells #[.slice A1_0 l1_0.length c1_0, .slice A1_1 l1_1.length c1_1] 27 (0, 0)) (by (with_reducible repeat (first|refine Qa ?_ _|refine Qb ?_|refine Q7 ?_ _)); exact BK234.out) k_ hn_)), Or.elim hk_ (fun hs_ => Or.elim hs_ (fun hs_ => fun e_ => Nat.not_le.2 hs_ (by rw [e_]; exact GW253.out)) (fun hs_ => fun e_ => Nat.not_le.2 hs_ (by rw [e_]; exact GW253.out))) (fun hn_ => (Kd.freshB (g := gb253) (o := .cells #[.slice Ao87 t245.length co87, .slice Ao91 t248.length co91] 27 (0, 0)) (by (with_reducible repeat (first|refine Qa ?_ _|refine Qb ?_|refine Q7 ?_ _)); exact BK253.out) k_ hn_)), Or.elim hk_ (fun hs_ => Or.elim hs_ (fun hs_ => fun e_ => Nat.not_le.2 hs_ (by rw [e_]; exact GW262.out)) (fun hs_ => fun e_ => Nat.not_le.2 hs_ (by rw [e_]; exact GW262.out))) (fun hn_ => (Kd.freshB (g := gb262) (o := .cells #[.slice Ao96 t254.length co96, .slice Ao101 t257.length co101] 27 (0, 0)) (by (with_reducible repeat (first|refine Qa ?_ _|refine Qb ?_|refine Q7 ?_ _)); exact BK262.out) k_ hn_)), Or.elim hk_ (fun hs_ => Or.elim hs_ (fun hs_ => fun e_ => Nat.not_le.2 hs_ (by rw [e_]; exact GW270.out)) (fun hs_ => fun e_ => Nat.not_le.2 hs_ (by rw [e_]; exact GW270.out))) (fun hn_ => (Kd.freshB (g := gb270) (o := .cells #[.slice Ao106 t263.length co106, .slice Ao112 t266.length co112] 27 (0, 0)) (by (with_reducible repeat (first|refine Qa ?_ _|refine Qb ?_|refine Q7 ?_ _)); exact BK270.out) k_ hn_))⟩)) (below_size (by repeat (first | (with_reducible first|exact HB.out|apply Q8|apply Q5|apply Q9|refine Q6 ?_ GE233.out|refine Q6 ?_ GE234.out|refine Q6 ?_ GE253.out|refine Q6 ?_ GE262.out|refine Q6 ?_ GE270.out)|exact HB.out)))); have n7_ := Q4 (Kd.V_lower (Kd.V_mono (ok' := fun k_ => k_ ≠ gb233 ∧ k_ ≠ gb234 ∧ k_ ≠ gb253 ∧ k_ ≠ gb262 ∧ k_ ≠ gb270) ho1 (fun k_ hk_ => ⟨Or.elim hk_ (fun hs_ => Or.elim hs_ (fun hs_ => fun e_ => Nat.not_le.2 hs_ (by rw [e_]; exact GW233.out)) (fun hs_ => fun e_ => Nat.not_le.2 hs_ (by rw [e_]; exact GW233.out))) (fun hn_ => (Kd.freshB (g := gb233) (o := .cells #[.slice A0_0 l0_0.length c0_0, .slice A0_1 l0_1.length c0_1] 27 (0, 0)) (by (with_reducible repeat (first|refine Qa ?_ _|refine Qb ?_|refine Q7 ?_ _)); exact BK233.out) k_ hn_)), Or.elim hk_ (fun hs_ => Or.elim hs_ (fun hs_ => fun e_ => Nat.not_le.2 hs_ (by rw [e_]; exact GW234.out)) (fun hs_ => fun e_ => Nat.not_le.2 hs_ (by rw [e_]; exact GW234.out))) (fun hn_ => (Kd.freshB (g := gb234) (o := .cells #[.slice A1_0 l1_0.length c1_0, .slice A1_1 l1_1.length c1_1] 27 (0, 0)) (by (with_reducible repeat (first|refine Qa ?_ _|refine Qb ?_|refine Q7 ?_ _)); exact BK234.out) k_ hn_)), Or.elim hk_ (fun hs_ => Or.elim hs_ (fun hs_ => fun e_ => Nat.not_le.2 hs_ (by rw [e_]; exact GW253.out)) (fun hs_ => fun e_ => Nat.not_le.2 hs_ (by rw [e_]; exact GW253.out))) (fun hn_ => (Kd.freshB (g := gb253) (o := .cells #[.slice Ao87 t245.length co87, .slice Ao91 t248.length co91] 27 (0, 0)) (by (with_reducible repeat (first|refine Qa ?_ _|refine Qb ?_|refine Q7 ?_ _)); exact BK253.out) k_ hn_)), Or.elim hk_ (fun hs_ => Or.elim hs_ (fun hs_ => fun e_ => Nat.not_le.2 hs_ (by rw [e_]; exact GW262.out)) (fun hs_ => fun e_ => Nat.not_le.2 hs_ (by rw [e_]; exact GW262.out))) (fun hn_ => (Kd.freshB (g := gb262) (o := .cells #[.slice Ao96 t254.length co96, .slice Ao101 t257.length co101] 27 (0, 0)) (by (with_reducible repeat (first|refine Qa ?_ _|refine Qb ?_|refine Q7 ?_ _)); exact BK262.out) k_ hn_)), Or.elim hk_ (fun hs_ => Or.elim hs_ (fun hs_ => fun e_ => Nat.not_le.2 hs_ (by rw [e_]; exact GW270.out)) (fun hs_ => fun e_ => Nat.not_le.2 hs_ (by rw [e_]; exact GW270.out))) (fun hn_ => (Kd.freshB (g := gb270) (o := .cells #[.slice Ao106 t263.length co106, .slice Ao112 t266.length co112] 27 (0, 0)) (by (with_reducible repeat (first|refine Qa ?_ _|refine Qb ?_|refine Q7 ?_ _)); exact BK270.out) k_ hn_))⟩)) (below_size (by repeat (first | (with_reducible first|exact HB.out|apply Q8|apply Q5|apply Q9|refine Q6 ?_ GE233.out|refine Q6 ?_ GE234.out|refine Q6 ?_ GE253.out|refine Q6 ?_ GE262.out|refine Q6 ?_ GE270.out)|exact HB.out)))); have n8_ := Q4 (blk_below (g := gb233) (o := .cells #[.slice A0_0 l0_0.length c0_0, .slice A0_1 l0_1.length c0_1] 27 (0, 0)) (by (with_reducible repeat (first|refine Qa ?_ _|refine Qb ?_|refine Q7 ?_ _)); exact BK233.out) hb); have n9_ := Q4 (blk_below (g := gb234) (o := .cells #[.slice A1_0 l1_0.length c1_0, .slice A1_1 l1_1.length c1_1] 27 (0, 0)) (by (with_reducible repeat (first|refine Qa ?_ _|refine Qb ?_|refine Q7 ?_ _)); exact BK234.out) hb); have n10_ := Q4 (blk_below (g := gb253) (o := .cells #[.slice Ao87 t245.length co87, .slice Ao91 t248.length co91] 27 (0, 0)) (by (with_reducible repeat (first|refine Qa ?_ _|refine Qb ?_|refine Q7 ?_ _)); exact BK253.out) hb); have n11_ := Q4 (blk_below (g := gb262) (o := .cells #[.slice Ao96 t254.length co96, .slice Ao101 t257.length co101] 27 (0, 0)) (by (with_reducible repeat (first|refine Qa ?_ _|refine Qb ?_|refine Q7 ?_ _)); exact BK262.out) hb); have n12_ := Q4 (blk_below (g := gb270) (o := .cells #[.slice Ao106 t263.length co106, .slice Ao112 t266.length co112] 27 (0, 0)) (by (with_reducible repeat (first|refine Qa ?_ _|refine Qb ?_|refine Q7 ?_ _)); exact BK270.out) hb); have n13_ := Q4 (below_step (by repeat (first | (with_reducible first|exact HB.out|apply Q8|apply Q5|apply Q9|refine Q6 ?_ GE233.out|refine Q6 ?_ GE234.out|refine Q6 ?_ GE253.out|refine Q6 ?_ GE262.out|refine Q6 ?_ GE270.out)|exact HB.out)) hb); clear HO247; clear HO250; clear HO256; clear HO259; clear HO265; clear HO268; clear BK233; clear BK234; clear BK253; clear BK262; clear BK270; clear HB; have HO247 := n0_; have HO250 := n1_; have HO256 := n2_; have HO259 := n3_; have HO265 := n4_; have HO268 := n5_; have HO273 := n6_; have HO276 := n7_; have BK233 := n8_; have BK234 := n9_; have BK253 := n10_; have BK262 := n11_; have BK270 := n12_; have HB := n13_; clear n0_ n1_ n2_ n3_ n4_ n5_ n6_ n7_ n8_ n9_ n10_ n11_ n12_ n13_; (try clear hb); (try clear hb2); (try clear hk); (try clear hi); (try clear ho0); (try clear ho1)) | ((with_reducible refine gate_dst (N := 17) rfl ?_); (try (refine gate_guard (by rfl) ?_; dsimp only)); refine box_event ?hg (N := 17) ?hd (cs := #[.slice none 0 0, .slice none 0 0]) (t := 27) ?hr ?_; (case hd => rfl); (case hg => rfl); (case hr => first | (go_simp; done) | (go_simp; rfl)); intro gb278 hg w116 hbox hb; have n0_ := Q4 (Kd.V_below (Kd.V_elderB (by (with_reducible repeat (first|apply Kd.V_alloc|apply Kd.V_drewN|apply Kd.V_drew)); exact HO247.out) gb278 (Nat.le_of_eq hg.symm)) hb); have n1_ := Q4 (Kd.V_below (Kd.V_elderB (by (with_reducible repeat (first|apply Kd.V_alloc|apply Kd.V_drewN|apply Kd.V_drew)); exact HO250.out) gb278 (Nat.le_of_eq hg.symm)) hb); have n2_ := Q4 (Kd.V_below (Kd.V_elderB (by (with_reducible repeat (first|apply Kd.V_alloc|apply Kd.V_drewN|apply Kd.V_drew)); exact HO256.out) gb278 (Nat.le_of_eq hg.symm)) hb); have n3_ := Q4 (Kd.V_below (Kd.V_elderB (by (with_reducible repeat (first|apply Kd.V_alloc|apply Kd.V_drewN|apply Kd.V_drew)); exact HO259.out) gb278 (Nat.le_of_eq hg.symm)) hb); have n4_ := Q4 (Kd.V_below (Kd.V_elderB (by (with_reducible repeat (first|apply Kd.V_alloc|apply Kd.V_drewN|apply Kd.V_drew)); exact HO265.out) gb278 (Nat.le_of_eq hg.symm)) hb); have n5_ := Q4 (Kd.V_below (Kd.V_elderB (by (with_reducible repeat (first|apply Kd.V_alloc|apply Kd.V_drewN|apply Kd.V_drew)); exact HO268.out) gb278 (Nat.le_of_eq hg.symm)) hb); have n6_ := Q4 (Kd.V_below (Kd.V_elderB (by (with_reducible repeat (first|apply Kd.V_alloc|apply Kd.V_drewN|apply Kd.V_drew)); exact HO273.out) gb278 (Nat.le_of_eq hg.symm)) hb); have n7_ := Q4 (Kd.V_below (Kd.V_elderB (by (with_reducible repeat (first|apply Kd.V_alloc|apply Kd.V_drewN|apply Kd.V_drew)); exact HO276.out) gb278 (Nat.le_of_eq hg.symm)) hb); have n8_ := Q4 (blk_below (g := gb233) (o := .cells #[.slice A0_0 l0_0.length c0_0, .slice A0_1 l0_1.length c0_1] 27 (0, 0)) (by (with_reducible repeat (first|refine Qa ?_ _|refine Qb ?_|refine Q7 ?_ _)); exact BK233.out) hb); have n9_ := Q4 (blk_below (g := gb234) (o := .cells #[.slice A1_0 l1_0.length c1_0, .slice A1_1 l1_1.length c1_1] 27 (0, 0)) (by (with_reducible repeat (first|refine Qa ?_ _|refine Qb ?_|refine Q7 ?_ _)); exact BK234.out) hb); have n10_ := Q4 (blk_below (g := gb253) (o := .cells #[.slice Ao87 t245.length co87, .slice Ao91 t248.length co91] 27 (0, 0)) (by (with_reducible repeat (first|refine Qa ?_ _|refine Qb ?_|refine Q7 ?_ _)); exact BK253.out) hb); have n11_ := Q4 (blk_below (g := gb262) (o := .cells #[.slice Ao96 t254.length co96, .slice Ao101 t257.length co101] 27 (0, 0)) (by (with_reducible repeat (first|refine Qa ?_ _|refine Qb ?_|refine Q7 ?_ _)); exact BK262.out) hb); have n12_ := Q4 (blk_below (g := gb270) (o := .cells #[.slice Ao106 t263.length co106, .slice Ao112 t266.length co112] 27 (0, 0)) (by (with_reducible repeat (first|refine Qa ?_ _|refine Qb ?_|refine Q7 ?_ _)); exact BK270.out) hb); have n13_ := Q4 (below_step (by repeat (first | (with_reducible first|exact HB.out|apply Q8|apply Q5|apply Q9|refine Q6 ?_ GE233.out|refine Q6 ?_ GE234.out|refine Q6 ?_ GE253.out|refine Q6 ?_ GE262.out|refine Q6 ?_ GE270.out)|exact HB.out)) hb); have n14_ := Q4 (hbox); have n15_ := Q4 ((by rw [hg]; exact (below_size (by repeat (first | (with_reducible first|exact HB.out|apply Q8|apply Q5|apply Q9|refine Q6 ?_ GE233.out|refine Q6 ?_ GE234.out|refine Q6 ?_ GE253.out|refine Q6 ?_ GE262.out|refine Q6 ?_ GE270.out)|exact HB.out))) : w.heap.size ≤ gb278)); have n16_ := Q4 ((by rw [hg]; exact (below_size (by repeat (first | (with_reducible first|exact HB.out|apply Q8|apply Q5|apply Q9|refine Q6 ?_ GE233.out|refine Q6 ?_ GE234.out|refine Q6 ?_ GE253.out|refine Q6 ?_ GE262.out|refine Q6 ?_ GE270.out)|exact HB.out))) : w.heap.size ≤ gb278)); have n17_ := Q4 ((by rw [hg]; exact Nat.ne_of_lt (blk_lt (g := gb233) (o := .cells #[.slice A0_0 l0_0.length c0_0, .slice A0_1 l0_1.length c0_1] 27 (0, 0)) (by (with_reducible repeat (first|refine Qa ?_ _|refine Qb ?_|refine Q7 ?_ _)); exact BK233.out)) : gb233 ≠ gb278)); have n18_ := Q4 ((by rw [hg]; exact Nat.ne_of_gt (blk_lt (g := gb233) (o := .cells #[.slice A0_0 l0_0.length c0_0, .slice A0_1 l0_1.length c0_1] 27 (0, 0)) (by (with_reducible repeat (first|refine Qa ?_ _|refine Qb ?_|refine Q7 ?_ _)); exact BK233.out)) : gb278 ≠ gb233)); have n19_ := Q4 ((by rw [hg]; exact Nat.ne_of_lt (blk_lt (g := gb234) (o := .cells #[.slice A1_0 l1_0.length c1_0, .slice A1_1 l1_1.length c1_1] 27 (0, 0)) (by (with_reducible repeat (first|refine Qa ?_ _|refine Qb ?_|refine Q7 ?_ _)); exact BK234.out)) : gb234 ≠ gb278)); have n20_ := Q4 ((by rw [hg]; exact Nat.ne_of_gt (blk_lt (g := gb234) (o := .cells #[.slice A1_0 l1_0.length c1_0, .slice A1_1 l1_1.length c1_1] 27 (0, 0)) (by (with_reducible repeat (first|refine Qa ?_ _|refine Qb ?_|refine Q7 ?_ _)); exact BK234.out)) : gb278 ≠ gb234)); have n21_ := Q4 ((by rw [hg]; exact Nat.ne_of_lt (blk_lt (g := gb253) (o := .cells #[.slice Ao87 t245.length co87, .slice Ao91 t248.length co91] 27 (0, 0)) (by (with_reducible repeat (first|refine Qa ?_ _|refine Qb ?_|refine Q7 ?_ _)); exact BK253.out)) : gb253 ≠ gb278)); have n22_ := Q4 ((by rw [hg]; exact Nat.ne_of_gt (blk_lt (g := gb253) (o := .cells #[.slice Ao87 t245.length co87, .slice Ao91 t248.length co91] 27 (0, 0)) (by (with_reducible repeat (first|refine Qa ?_ _|refine Qb ?_|refine Q7 ?_ _)); exact BK253.out)) : gb278 ≠ gb253)); have n23_ := Q4 ((by rw [hg]; exact Nat.ne_of_lt (blk_lt (g := gb262) (o := .cells #[.slice Ao96 t254.length co96, .slice Ao101 t257.length co101] 27 (0, 0)) (by (with_reducible repeat (first|refine Qa ?_ _|refine Qb ?_|refine Q7 ?_ _)); exact BK262.out)) : gb262 ≠ gb278)); have n24_ := Q4 ((by rw [hg]; exact Nat.ne_of_gt (blk_lt (g := gb262) (o := .cells #[.slice Ao96 t254.length co96, .slice Ao101 t257.length co101] 27 (0, 0)) (by (with_reducible repeat (first|refine Qa ?_ _|refine Qb ?_|refine Q7 ?_ _)); exact BK262.out)) : gb278 ≠ gb262)); have n25_ := Q4 ((by rw [hg]; exact Nat.ne_of_lt (blk_lt (g := gb270) (o := .cells #[.slice Ao106 t263.length co106, .slice Ao112 t266.length co112] 27 (0, 0)) (by (with_reducible repeat (first|refine Qa ?_ _|refine Qb ?_|refine Q7 ?_ _)); exact BK270.out)) : gb270 ≠ gb278)); have n26_ := Q4 ((by rw [hg]; exact Nat.ne_of_gt (blk_lt (g := gb270) (o := .cells #[.slice Ao106 t263.length co106, .slice Ao112 t266.length co112] 27 (0, 0)) (by (with_reducible repeat (first|refine Qa ?_ _|refine Qb ?_|refine Q7 ?_ _)); exact BK270.out)) : gb278 ≠ gb270)); clear HO247; clear HO250; clear HO256; clear HO259; clear HO265; clear HO268; clear HO273; clear HO276; clear BK233; clear BK234; clear BK253; clear BK262; clear BK270; clear HB; have HO247 := n0_; have HO250 := n1_; have HO256 := n2_; have HO259 := n3_; have HO265 := n4_; have HO268 := n5_; have HO273 := n6_; have HO276 := n7_; have BK233 := n8_; have BK234 := n9_; have BK253 := n10_; have BK262 := n11_; have BK270 := n12_; have HB := n13_; have BK278 := n14_; have GW278 := n15_; have GE278 := n16_; have NB233_278 := n17_; have NB278_233 := n18_; have NB234_278 := n19_; have NB278_234 := n20_; have NB253_278 := n21_; have NB278_253 := n22_; have NB262_278 := n23_; have NB278_262 := n24_; have NB270_278 := n25_; have NB278_270 := n26_; clear n0_ n1_ n2_ n3_ n4_ n5_ n6_ n7_ n8_ n9_ n10_ n11_ n12_ n13_ n14_ n15_ n16_ n17_ n18_ n19_ n20_ n21_ n22_ n23_ n24_ n25_ n26_; clear hb hbox hg; obtain ⟨Ao117, co117, eo117⟩ := Kd.V_slice HO273.out; subst eo117; have hnb118 := NB278_233.out; have hnc118 := NB233_278.out; have hnb119 := NB278_234.out; have hnc119 := NB234_278.out; have hnb120 := NB278_253.out; have hnc120 := NB253_278.out; have hnb121 := NB278_262.out; have hnc121 := NB262_278.out; have hnb122 := NB278_270.out; have hnc122 := NB270_278.out; have hcz123_0 : w116.cell? ⟨gb278, 0, none⟩ = some (.slice none 0 0) := (blk_cell BK278.out 0).trans rfl; have hcz123_1 : w116.cell? ⟨gb278, 1, none⟩ = some (.slice none 0 0) := (blk_cell BK278.out 1).trans rfl; have hfz123_0 := blk_frozen BK278.out 0; have hfz123_1 := blk_frozen BK278.out 1; obtain ⟨Ao124, co124, eo124⟩ := Kd.V_slice HO276.out; subst eo124; have hcz125_0 : w116.cell? ⟨gb233, 0, none⟩ = some (.slice A0_0 l0_0.length c0_0) := (blk_cell BK233.out 0).trans rfl; have hcz125_1 : w116.cell? ⟨gb233, 1, none⟩ = some (.slice A0_1 l0_1.length c0_1) := (blk_cell BK233.out 1).trans rfl; have hfz125_0 := blk_frozen BK233.out 0; have hfz125_1 := blk_frozen BK233.out 1) | ((with_reducible refine gate_callee (f := 20) rfl ?_); refine goesL_ (some 94) rfl rfl Try.func20 (by kernel_rfl) rfl #[.agg #[.slice A0_0 l0_0.length c0_0, .slice A0_1 l0_1.length c0_1], .int .i64 a3] rfl (by (try simp only [List.map_toArray, List.map_cons, List.map_nil]); first | done | rfl | (simp only [List.length_drop, List.length_take]; rfl)) ?_; (with_reducible refine (intern_Get.calls _ _ l0_0 _ _ l0_1 a3 t279 t282 _ ?side1 ?side2 ?side3 ?side4 A57.out).mono ?_); (case side1 => exact Kd.C_below HR0_0.out (by repeat (first | (with_reducible first|exact HB.out|apply Q8|apply Q5|apply Q9|refine Q6 ?_ GE233.out|refine Q6 ?_ GE234.out|refine Q6 ?_ GE253.out|refine Q6 ?_ GE262.out|refine Q6 ?_ GE270.out|refine Q6 ?_ GE278.out)|exact HB.out))); (case side2 => exact HC0_0.out); (case side3 => exact Kd.C_below HR0_1.out (by repeat (first | (with_reducible first|exact HB.out|apply Q8|apply Q5|apply Q9|refine Q6 ?_ GE233.out|refine Q6 ?_ GE234.out|refine Q6 ?_ GE253.out|refine Q6 ?_ GE262.out|refine Q6 ?_ GE270.out|refine Q6 ?_ GE278.out)|exact HB.out))); (case side4 => exact HC0_1.out); rintro e w126 ⟨v280, rfl, ho0, hb⟩; refine ⟨_, rfl, ?_⟩; have n0_ := Q4 (Kd.V_elder' (by (with_reducible repeat (first|apply Kd.V_alloc|apply Kd.V_drewN|apply Kd.V_drew)); exact (Kd.V_mono (Kd.V_far (p := ⟨gb278, 1, none⟩) (Kd.V_far (p := ⟨gb278, 0, none⟩) (Kd.V_mono HO247.out (fun k_ hk => (⟨hk, hk.2⟩ : _ ∧ k_ ≠ gb278))) (fun _ hk => hk.2) (.slice Ao117 t271.length co117)) (fun _ hk => hk.2) (.slice Ao124 t274.length co124)) (fun _ h_ => h_.1))) (Kd.R_base ho0) hb); have n1_ := Q4 (Kd.V_elder' (by (with_reducible repeat (first|apply Kd.V_alloc|apply Kd.V_drewN|apply Kd.V_drew)); exact (Kd.V_mono (Kd.V_far (p := ⟨gb278, 1, none⟩) (Kd.V_far (p := ⟨gb278, 0, none⟩) (Kd.V_mono HO250.out (fun k_ hk => (⟨hk, hk.2⟩ : _ ∧ k_ ≠ gb278))) (fun _ hk => hk.2) (.slice Ao117 t271.length co117)) (fun _ hk => hk.2) (.slice Ao124 t274.length co124)) (fun _ h_ => h_.1))) (Kd.R_base ho0) hb); have n2_ := Q4 (Kd.V_elder' (by (with_reducible repeat (first|apply Kd.V_alloc|apply Kd.V_drewN|apply Kd.V_drew)); exact (Kd.V_mono (Kd.V_far (p := ⟨gb278, 1, none⟩) (Kd.V_far (p := ⟨gb278, 0, none⟩) (Kd.V_mono HO256.out (fun k_ hk => (⟨hk, hk.2⟩ : _ ∧ k_ ≠ gb278))) (fun _ hk => hk.2) (.slice Ao117 t271.length co117)) (fun _ hk => hk.2) (.slice Ao124 t274.length co124)) (fun _ h_ => h_.1))) (Kd.R_base ho0) hb); have n3_ := Q4 (Kd.V_elder' (by (with_reducible repeat (first|apply Kd.V_alloc|apply Kd.V_drewN|apply Kd.V_drew)); exact (Kd.V_mono (Kd.V_far (p := ⟨gb278, 1, none⟩) (Kd.V_far (p := ⟨gb278, 0, none⟩) (Kd.V_mono HO259.out (fun k_ hk => (⟨hk, hk.2⟩ : _ ∧ k_ ≠ gb278))) (fun _ hk => hk.2) (.slice Ao117 t271.length co117)) (fun _ hk => hk.2) (.slice Ao124 t274.length co124)) (fun _ h_ => h_.1))) (Kd.R_base ho0) hb); have n4_ := Q4 (Kd.V_elder' (by (with_reducible repeat (first|apply Kd.V_alloc|apply Kd.V_drewN|apply Kd.V_drew)); exact (Kd.V_mono (Kd.V_far (p := ⟨gb278, 1, none⟩) (Kd.V_far (p := ⟨gb278, 0, none⟩) (Kd.V_mono HO265.out (fun k_ hk => (⟨hk, hk.2⟩ : _ ∧ k_ ≠ gb278))) (fun _ hk => hk.2) (.slice Ao117 t271.length co117)) (fun _ hk => hk.2) (.slice Ao124 t274.length co124)) (fun _ h_ => h_.1))) (Kd.R_base ho0) hb); have n5_ := Q4 (Kd.V_elder' (by (with_reducible repeat (first|apply Kd.V_alloc|apply Kd.V_drewN|apply Kd.V_drew)); exact (Kd.V_mono (Kd.V_far (p := ⟨gb278, 1, none⟩) (Kd.V_far (p := ⟨gb278, 0, none⟩) (Kd.V_mono HO268.out (fun k_ hk => (⟨hk, hk.2⟩ : _ ∧ k_ ≠ gb278))) (fun _ hk => hk.2) (.slice Ao117 t271.length co117)) (fun _ hk => hk.2) (.slice Ao124 t274.length co124)) (fun _ h_ => h_.1))) (Kd.R_base ho0) hb); have n6_ := Q4 (Kd.V_elder' (by (with_reducible repeat (first|apply Kd.V_alloc|apply Kd.V_drewN|apply Kd.V_drew)); exact (Kd.V_mono (Kd.V_far (p := ⟨gb278, 1, none⟩) (Kd.V_far (p := ⟨gb278, 0, none⟩) (Kd.V_mono HO273.out (fun k_ hk => (⟨hk, hk.2⟩ : _ ∧ k_ ≠ gb278))) (fun _ hk => hk.2) (.slice Ao117 t271.length co117)) (fun _ hk => hk.2) (.slice Ao124 t274.length co124)) (fun _ h_ => h_.1))) (Kd.R_base ho0) hb); have n7_ := Q4 (Kd.V_elder' (by (with_reducible repeat (first|apply Kd.V_alloc|apply Kd.V_drewN|apply Kd.V_drew)); exact (Kd.V_mono (Kd.V_far (p := ⟨gb278, 1, none⟩) (Kd.V_far (p := ⟨gb278, 0, none⟩) (Kd.V_mono HO276.out (fun k_ hk => (⟨hk, hk.2⟩ : _ ∧ k_ ≠ gb278))) (fun _ hk => hk.2) (.slice Ao117 t271.length co117)) (fun _ hk => hk.2) (.slice Ao124 t274.length co124)) (fun _ h_ => h_.1))) (Kd.R_base ho0) hb); have n8_ := Q4 (Kd.R_lower ho0 (below_size (by repeat (first | (with_reducible first|exact HB.out|apply Q8|apply Q5|apply Q9|refine Q6 ?_ GE233.out|refine Q6 ?_ GE234.out|refine Q6 ?_ GE253.out|refine Q6 ?_ GE262.out|refine Q6 ?_ GE270.out|refine Q6 ?_ GE278.out)|exact HB.out)))); have n9_ := Q4 (blk_below (g := gb233) (o := .cells #[.slice A0_0 l0_0.length c0_0, .slice A0_1 l0_1.length c0_1] 27 (0, 0)) (by (with_reducible repeat (first|refine Qa ?_ _|refine Qb ?_|refine Q7 ?_ _)); refine blk_far ?_ NB233_278.out _; (with_reducible repeat (first|refine Qa ?_ _|refine Qb ?_|refine Q7 ?_ _)); refine blk_far ?_ NB233_278.out _; (with_reducible repeat (first|refine Qa ?_ _|refine Qb ?_|refine Q7 ?_ _)); exact BK233.out) hb); have n10_ := Q4 (blk_below (g := gb234) (o := .cells #[.slice A1_0 l1_0.length c1_0, .slice A1_1 l1_1.length c1_1] 27 (0, 0)) (by (with_reducible repeat (first|refine Qa ?_ _|refine Qb ?_|refine Q7 ?_ _)); refine blk_far ?_ NB234_278.out _; (with_reducible repeat (first|refine Qa ?_ _|refine Qb ?_|refine Q7 ?_ _)); refine blk_far ?_ NB234_278.out _; (with_reducible repeat (first|refine Qa ?_ _|refine Qb ?_|refine Q7 ?_ _)); exact BK234.out) hb); have n11_ := Q4 (blk_below (g := gb253) (o := .cells #[.slice Ao87 t245.length co87, .slice Ao91 t248.length co91] 27 (0, 0)) (by (with_reducible repeat (first|refine Qa ?_ _|refine Qb ?_|refine Q7 ?_ _)); refine blk_far ?_ NB253_278.out _; (with_reducible repeat (first|refine Qa ?_ _|refine Qb ?_|refine Q7 ?_ _)); refine blk_far ?_ NB253_278.out _; (with_reducible repeat (first|refine Qa ?_ _|refine Qb ?_|refine Q7 ?_ _)); exact BK253.out) hb); have n12_ := Q4 (blk_below (g := gb262) (o := .cells #[.slice Ao96 t254.length co96, .slice Ao101 t257.length co101] 27 (0, 0)) (by (with_reducible repeat (first|refine Qa ?_ _|refine Qb ?_|refine Q7 ?_ _)); refine blk_far ?_ NB262_278.out _; (with_reducible repeat (first|refine Qa ?_ _|refine Qb ?_|refine Q7 ?_ _)); refine blk_far ?_ NB262_278.out _; (with_reducible repeat (first|refine Qa ?_ _|refine Qb ?_|refine Q7 ?_ _)); exact BK262.out) hb); have n13_ := Q4 (blk_below (g := gb270) (o := .cells #[.slice Ao106 t263.length co106, .slice Ao112 t266.length co112] 27 (0, 0)) (by (with_reducible repeat (first|refine Qa ?_ _|refine Qb ?_|refine Q7 ?_ _)); refine blk_far ?_ NB270_278.out _; (with_reducible repeat (first|refine Qa ?_ _|refine Qb ?_|refine Q7 ?_ _)); refine blk_far ?_ NB270_278.out _; (with_reducible repeat (first|refine Qa ?_ _|refine Qb ?_|refine Q7 ?_ _)); exact BK270.out) hb); have n14_ := Q4 (blk_below (g := gb278) (o := .cells #[.slice Ao117 t271.length co117, .slice Ao124 t274.length co124] 27 (0, 0)) (by (with_reducible repeat (first|refine Qa ?_ _|refine Qb ?_|refine Q7 ?_ _)); refine blk_put (cs := #[.slice Ao117 t271.length co117, .slice none 0 0]) ?_ 1 _ rfl; (with_reducible repeat (first|refine Qa ?_ _|refine Qb ?_|refine Q7 ?_ _)); refine blk_put (cs := #[.slice none 0 0, .slice none 0 0]) ?_ 0 _ rfl; (with_reducible repeat (first|refine Qa ?_ _|refine Qb ?_|refine Q7 ?_ _)); exact BK278.out) hb); have n15_ := Q4 (below_step (by repeat (first | (with_reducible first|exact HB.out|apply Q8|apply Q5|apply Q9|refine Q6 ?_ GE233.out|refine Q6 ?_ GE234.out|refine Q6 ?_ GE253.out|refine Q6 ?_ GE262.out|refine Q6 ?_ GE270.out|refine Q6 ?_ GE278.out)|exact HB.out)) hb); clear HO247; clear HO250; clear HO256; clear HO259; clear HO265; clear HO268; clear HO273; clear HO276; clear BK233; clear BK234; clear BK253; clear BK262; clear BK270; clear BK278; clear HB; have HO247 := n0_; have HO250 := n1_; have HO256 := n2_; have HO259 := n3_; have HO265 := n4_; have HO268 := n5_; have HO273 := n6_; have HO276 := n7_; have HO281 := n8_; have BK233 := n9_; have BK234 := n10_; have BK253 := n11_; have BK262 := n12_; have BK270 := n13_; have BK278 := n14_; have HB := n15_; clear n0_ n1_ n2_ n3_ n4_ n5_ n6_ n7_ n8_ n9_ n10_ n11_ n12_ n13_ n14_ n15_; (try clear hb); (try clear hb2); (try clear hk); (try clear hi); (try clear ho0); have hcz127_0 : w126.cell? ⟨gb233, 0, none⟩ = some (.slice A0_0 l0_0.length c0_0) := (blk_cell BK233.out 0).trans rfl; have hcz127_1 : w126.cell? ⟨gb233, 1, none⟩ = some (.slice A0_1 l0_1.length c0_1) := (blk_cell BK233.out 1).trans rfl; have hfz127_0 := blk_frozen BK233.out 0; have hfz127_1 := blk_frozen BK233.out 1) | ((with_reducible refine gate_callee (f := 21) rfl ?_); refine goesL_ (some 100) rfl rfl Try.func21 (by kernel_rfl) rfl #[.agg #[.slice A0_0 l0_0.length c0_0, .slice A0_1 l0_1.length c0_1], .int .i64 a3] rfl (by (try simp only [List.map_toArray, List.map_cons, List.map_nil]); first | done | rfl | (simp only [List.length_drop, List.length_take]; rfl)) ?_; (with_reducible refine (curtilageref05_Get.calls (fun k_ => k_ < w.heap.size) _ _ l0_0 _ _ l0_1 a3 t283 t286 _ ?side1 ?side2 ?side3 A58.out).mono ?_); (case side1 => exact Kd.V_mk HC0_0.out (Kd.F_below (Kd.C_F (Kd.heap_slice 57 k57_heap) HR0_0.out) (by repeat (first | (with_reducible first|exact HB.out|apply Q8|apply Q5|apply Q9|refine Q6 ?_ GE233.out|refine Q6 ?_ GE234.out|refine Q6 ?_ GE253.out|refine Q6 ?_ GE262.out|refine Q6 ?_ GE270.out|refine Q6 ?_ GE278.out)|exact HB.out)))); (case side2 => repeat (first|exact (Kd.C_below HR0_1.out HB.out) | (with_reducible refine Kd.C_alloc ?_ _) | (with_reducible refine Kd.C_drewN ?_ _) | (with_reducible refine Kd.C_drew ?_))); (case side3 => exact HC0_1.out); rintro e w128 ⟨v284, rfl, ho0, hb⟩; refine ⟨_, rfl, ?_⟩; have n0_ := Q4 (Kd.V_below (by (with_reducible repeat (first|apply Kd.V_alloc|apply Kd.V_drewN|apply Kd.V_drew)); exact HO247.out) hb); have n1_ := Q4 (Kd.V_below (by (with_reducible repeat (first|apply Kd.V_alloc|apply Kd.V_drewN|apply Kd.V_drew)); exact HO250.out) hb); have n2_ := Q4 (Kd.V_below (by (with_reducible repeat (first|apply Kd.V_alloc|apply Kd.V_drewN|apply Kd.V_drew)); exact HO256.out) hb); have n3_ := Q4 (Kd.V_below (by (with_reducible repeat (first|apply Kd.V_alloc|apply Kd.V_drewN|apply Kd.V_drew)); exact HO259.out) hb); have n4_ := Q4 (Kd.V_below (by (with_reducible repeat (first|apply Kd.V_alloc|apply Kd.V_drewN|apply Kd.V_drew)); exact HO265.out) hb); have n5_ := Q4 (Kd.V_below (by (with_reducible repeat (first|apply Kd.V_alloc|apply Kd.V_drewN|apply Kd.V_drew)); exact HO268.out) hb); have n6_ := Q4 (Kd.V_below (by (with_reducible repeat (first|apply Kd.V_alloc|apply Kd.V_drewN|apply Kd.V_drew)); exact HO273.out) hb); have n7_ := Q4 (Kd.V_below (by (with_reducible repeat (first|apply Kd.V_alloc|apply Kd.V_drewN|apply Kd.V_drew)); exact HO276.out) hb); have n8_ := Q4 (Kd.R_below (by (with_reducible repeat (first|apply Kd.R_alloc|apply Kd.R_drewN|apply Kd.R_drew)); exact HO281.out) hb); have n9_ := Q4 (Kd.V_lower (Kd.V_mono (ok' := fun k_ => some k_ ≠ (v280 : Value).ownBlock ∧ k_ ≠ gb233 ∧ k_ ≠ gb234 ∧ k_ ≠ gb253 ∧ k_ ≠ gb262 ∧ k_ ≠ gb270 ∧ k_ ≠ gb278) ho0 (fun k_ hk_ => ⟨Or.elim hk_ (fun hs_ => fun e_ => Nat.not_le.2 hs_ (Kd.R_base HO281.out k_ e_.symm)) (fun hn_ => (Kd.fresh' (Kd.R_lt (by (with_reducible repeat (first|apply Kd.R_alloc|apply Kd.R_drewN|apply Kd.R_drew)); exact HO281.out)) k_ hn_)), Or.elim hk_ (fun hs_ => fun e_ => Nat.not_le.2 hs_ (by rw [e_]; exact GW233.out)) (fun hn_ => (Kd.freshB (g := gb233) (o := .cells #[.slice A0_0 l0_0.length c0_0, .slice A0_1 l0_1.length c0_1] 27 (0, 0)) (by (with_reducible repeat (first|refine Qa ?_ _|refine Qb ?_|refine Q7 ?_ _)); exact BK233.out) k_ hn_)), Or.elim hk_ (fun hs_ => fun e_ => Nat.not_le.2 hs_ (by rw [e_]; exact GW234.out)) (fun hn_ => (Kd.freshB (g := gb234) (o := .cells #[.slice A1_0 l1_0.length c1_0, .slice A1_1 l1_1.length c1_1] 27 (0, 0)) (by (with_reducible repeat (first|refine Qa ?_ _|refine Qb ?_|refine Q7 ?_ _)); exact BK234.out) k_ hn_)), Or.elim hk_ (fun hs_ => fun e_ => Nat.not_le.2 hs_ (by rw [e_]; exact GW253.out)) (fun hn_ => (Kd.freshB (g := gb253) (o := .cells #[.slice Ao87 t245.length co87, .slice Ao91 t248.length co91] 27 (0, 0)) (by (with_reducible repeat (first|refine Qa ?_ _|refine Qb ?_|refine Q7 ?_ _)); exact BK253.out) k_ hn_)), Or.elim hk_ (fun hs_ => fun e_ => Nat.not_le.2 hs_ (by rw [e_]; exact GW262.out)) (fun hn_ => (Kd.freshB (g := gb262) (o := .cells #[.slice Ao96 t254.length co96, .slice Ao101 t257.length co101] 27 (0, 0)) (by (with_reducible repeat (first|refine Qa ?_ _|refine Qb ?_|refine Q7 ?_ _)); exact BK262.out) k_ hn_)), Or.elim hk_ (fun hs_ => fun e_ => Nat.not_le.2 hs_ (by rw [e_]; exact GW270.out)) (fun hn_ => (Kd.freshB (g := gb270) (o := .cells #[.slice Ao106 t263.length co106, .slice Ao112 t266.length co112] 27 (0, 0)) (by (with_reducible repeat (first|refine Qa ?_ _|refine Qb ?_|refine Q7 ?_ _)); exact BK270.out) k_ hn_)), Or.elim hk_ (fun hs_ => fun e_ => Nat.not_le.2 hs_ (by rw [e_]; exact GW278.out)) (fun hn_ => (Kd.freshB (g := gb278) (o := .cells #[.slice Ao117 t271.length co117, .slice Ao124 t274.length co124] 27 (0, 0)) (by (with_reducible repeat (first|refine Qa ?_ _|refine Qb ?_|refine Q7 ?_ _)); exact BK278.out) k_ hn_))⟩)) (below_size (by repeat (first | (with_reducible first|exact HB.out|apply Q8|apply Q5|apply Q9|refine Q6 ?_ GE233.out|refine Q6 ?_ GE234.out|refine Q6 ?_ GE253.out|refine Q6 ?_ GE262.out|refine Q6 ?_ GE270.out|refine Q6 ?_ GE278.out)|exact HB.out)))); have n10_ := Q4 (blk_below (g := gb233) (o := .cells #[.slice A0_0 l0_0.length c0_0, .slice A0_1 l0_1.length c0_1] 27 (0, 0)) (by (with_reducible repeat (first|refine Qa ?_ _|refine Qb ?_|refine Q7 ?_ _)); exact BK233.out) hb); have n11_ := Q4 (blk_below (g := gb234) (o := .cells #[.slice A1_0 l1_0.length c1_0, .slice A1_1 l1_1.length c1_1] 27 (0, 0)) (by (with_reducible repeat (first|refine Qa ?_ _|refine Qb ?_|refine Q7 ?_ _)); exact BK234.out) hb); have n12_ := Q4 (blk_below (g := gb253) (o := .cells #[.slice Ao87 t245.length co87, .slice Ao91 t248.length co91] 27 (0, 0)) (by (with_reducible repeat (first|refine Qa ?_ _|refine Qb ?_|refine Q7 ?_ _)); exact BK253.out) hb); have n13_ := Q4 (blk_below (g := gb262) (o := .cells #[.slice Ao96 t254.length co96, .slice Ao101 t257.length co101] 27 (0, 0)) (by (with_reducible repeat (first|refine Qa ?_ _|refine Qb ?_|refine Q7 ?_ _)); exact BK262.out) hb); have n14_ := Q4 (blk_below (g := gb270) (o := .cells #[.slice Ao106 t263.length co106, .slice Ao112 t266.length co112] 27 (0, 0)) (by (with_reducible repeat (first|refine Qa ?_ _|refine Qb ?_|refine Q7 ?_ _)); exact BK270.out) hb); have n15_ := Q4 (blk_below (g := gb278) (o := .cells #[.slice Ao117 t271.length co117, .slice Ao124 t274.length co124] 27 (0, 0)) (by (with_reducible repeat (first|refine Qa ?_ _|refine Qb ?_|refine Q7 ?_ _)); exact BK278.out) hb); have n16_ := Q4 (below_step (by repeat (first | (with_reducible first|exact HB.out|apply Q8|apply Q5|apply Q9|refine Q6 ?_ GE233.out|refine Q6 ?_ GE234.out|refine Q6 ?_ GE253.out|refine Q6 ?_ GE262.out|refine Q6 ?_ GE270.out|refine Q6 ?_ GE278.out)|exact HB.out)) hb); clear HO247; clear HO250; clear HO256; clear HO259; clear HO265; clear HO268; clear HO273; clear HO276; clear HO281; clear BK233; clear BK234; clear BK253; clear BK262; clear BK270; clear BK278; clear HB; have HO247 := n0_; have HO250 := n1_; have HO256 := n2_; have HO259 := n3_; have HO265 := n4_; have HO268 := n5_; have HO273 := n6_; have HO276 := n7_; have HO281 := n8_; have HO285 := n9_; have BK233 := n10_; have BK234 := n11_; have BK253 := n12_; have BK262 := n13_; have BK270 := n14_; have BK278 := n15_; have HB := n16_; clear n0_ n1_ n2_ n3_ n4_ n5_ n6_ n7_ n8_ n9_ n10_ n11_ n12_ n13_ n14_ n15_ n16_; (try clear hb); (try clear hb2); (try clear hk); (try clear hi); (try clear ho0); have hcz129_0 : w128.cell? ⟨gb233, 0, none⟩ = some (.slice A0_0 l0_0.length c0_0) := (blk_cell BK233.out 0).trans rfl; have hcz129_1 : w128.cell? ⟨gb233, 1, none⟩ = some (.slice A0_1 l0_1.length c0_1) := (blk_cell BK233.out 1).trans rfl; have hfz129_0 := blk_frozen BK233.out 0; have hfz129_1 := blk_frozen BK233.out 1) | ((with_reducible refine gate_callee (f := 13) rfl ?_); refine goesL_ (some 106) rfl rfl Try.func13 (by kernel_rfl) rfl #[.agg #[.slice A0_0 l0_0.length c0_0, .slice A0_1 l0_1.length c0_1], .slice A2 l2.length c2] rfl (by (try simp only [List.map_toArray, List.map_cons, List.map_nil]); first | done | rfl | (simp only [List.length_drop, List.length_take]; rfl)) ?_; (with_reducible refine (intern_Find.calls _ _ l0_0 _ _ l0_1 _ _ l2 t287 t288 _ ?side1 ?side2 ?side3 ?side4 ?side5 ?side6 A59.out).mono ?_); (case side1 => repeat (first|exact (Kd.C_below HR0_0.out HB.out) | (with_reducible refine Kd.C_alloc ?_ _) | (with_reducible refine Kd.C_drewN ?_ _) | (with_reducible refine Kd.C_drew ?_))); (case side2 => exact HC0_0.out); (case side3 => repeat (first|exact (Kd.C_below HR0_1.out HB.out) | (with_reducible refine Kd.C_alloc ?_ _) | (with_reducible refine Kd.C_drewN ?_ _) | (with_reducible refine Kd.C_drew ?_))); (case side4 => exact HC0_1.out); (case side5 => repeat (first|exact (Kd.C_below HR2.out HB.out) | (with_reducible refine Kd.C_alloc ?_ _) | (with_reducible refine Kd.C_drewN ?_ _) | (with_reducible refine Kd.C_drew ?_))); (case side6 => exact HC2.out); rintro e w130 ⟨rfl, hb⟩; refine ⟨_, rfl, ?_⟩; have n0_ := Q4 (Kd.V_below (by (with_reducible repeat (first|apply Kd.V_alloc|apply Kd.V_drewN|apply Kd.V_drew)); exact HO247.out) hb); have n1_ := Q4 (Kd.V_below (by (with_reducible repeat (first|apply Kd.V_alloc|apply Kd.V_drewN|apply Kd.V_drew)); exact HO250.out) hb); have n2_ := Q4 (Kd.V_below (by (with_reducible repeat (first|apply Kd.V_alloc|apply Kd.V_drewN|apply Kd.V_drew)); exact HO256.out) hb); have n3_ := Q4 (Kd.V_below (by (with_reducible repeat (first|apply Kd.V_alloc|apply Kd.V_drewN|apply Kd.V_drew)); exact HO259.out) hb); have n4_ := Q4 (Kd.V_below (by (with_reducible repeat (first|apply Kd.V_alloc|apply Kd.V_drewN|apply Kd.V_drew)); exact HO265.out) hb); have n5_ := Q4 (Kd.V_below (by (with_reducible repeat (first|apply Kd.V_alloc|apply Kd.V_drewN|apply Kd.V_drew)); exact HO268.out) hb); have n6_ := Q4 (Kd.V_below (by (with_reducible repeat (first|apply Kd.V_alloc|apply Kd.V_drewN|apply Kd.V_drew)); exact HO273.out) hb); have n7_ := Q4 (Kd.V_below (by (with_reducible repeat (first|apply Kd.V_alloc|apply Kd.V_drewN|apply Kd.V_drew)); exact HO276.out) hb); have n8_ := Q4 (Kd.R_below (by (with_reducible repeat (first|apply Kd.R_alloc|apply Kd.R_drewN|apply Kd.R_drew)); exact HO281.out) hb); have n9_ := Q4 (Kd.V_below (by (with_reducible repeat (first|apply Kd.V_alloc|apply Kd.V_drewN|apply Kd.V_drew)); exact HO285.out) hb); have n10_ := Q4 (blk_below (g := gb233) (o := .cells #[.slice A0_0 l0_0.length c0_0, .slice A0_1 l0_1.length c0_1] 27 (0, 0)) (by (with_reducible repeat (first|refine Qa ?_ _|refine Qb ?_|refine Q7 ?_ _)); exact BK233.out) hb); have n11_ := Q4 (blk_below (g := gb234) (o := .cells #[.slice A1_0 l1_0.length c1_0, .slice A1_1 l1_1.length c1_1] 27 (0, 0)) (by (with_reducible repeat (first|refine Qa ?_ _|refine Qb ?_|refine Q7 ?_ _)); exact BK234.out) hb); have n12_ := Q4 (blk_below (g := gb253) (o := .cells #[.slice Ao87 t245.length co87, .slice Ao91 t248.length co91] 27 (0, 0)) (by (with_reducible repeat (first|refine Qa ?_ _|refine Qb ?_|refine Q7 ?_ _)); exact BK253.out) hb); have n13_ := Q4 (blk_below (g := gb262) (o := .cells #[.slice Ao96 t254.length co96, .slice Ao101 t257.length co101] 27 (0, 0)) (by (with_reducible repeat (first|refine Qa ?_ _|refine Qb ?_|refine Q7 ?_ _)); exact BK262.out) hb); have n14_ := Q4 (blk_below (g := gb270) (o := .cells #[.slice Ao106 t263.length co106, .slice Ao112 t266.length co112] 27 (0, 0)) (by (with_reducible repeat (first|refine Qa ?_ _|refine Qb ?_|refine Q7 ?_ _)); exact BK270.out) hb); have n15_ := Q4 (blk_below (g := gb278) (o := .cells #[.slice Ao117 t271.length co117, .slice Ao124 t274.length co124] 27 (0, 0)) (by (with_reducible repeat (first|refine Qa ?_ _|refine Qb ?_|refine Q7 ?_ _)); exact BK278.out) hb); have n16_ := Q4 (below_step (by repeat (first | (with_reducible first|exact HB.out|apply Q8|apply Q5|apply Q9|refine Q6 ?_ GE233.out|refine Q6 ?_ GE234.out|refine Q6 ?_ GE253.out|refine Q6 ?_ GE262.out|refine Q6 ?_ GE270.out|refine Q6 ?_ GE278.out)|exact HB.out)) hb); clear HO247; clear HO250; clear HO256; clear HO259; clear HO265; clear HO268; clear HO273; clear HO276; clear HO281; clear HO285; clear BK233; clear BK234; clear BK253; clear BK262; clear BK270; clear BK278; clear HB; have HO247 := n0_; have HO250 := n1_; have HO256 := n2_; have HO259 := n3_; have HO265 := n4_; have HO268 := n5_; have HO273 := n6_; have HO276 := n7_; have HO281 := n8_; have HO285 := n9_; have BK233 := n10_; have BK234 := n11_; have BK253 := n12_; have BK262 := n13_; have BK270 := n14_; have BK278 := n15_; have HB := n16_; clear n0_ n1_ n2_ n3_ n4_ n5_ n6_ n7_ n8_ n9_ n10_ n11_ n12_ n13_ n14_ n15_ n16_; (try clear hb); (try clear hb2); (try clear hk); (try clear hi); have hcz131_0 : w130.cell? ⟨gb233, 0, none⟩ = some (.slice A0_0 l0_0.length c0_0) := (blk_cell BK233.out 0).trans rfl; have hcz131_1 : w130.cell? ⟨gb233, 1, none⟩ = some (.slice A0_1 l0_1.length c0_1) := (blk_cell BK233.out 1).trans rfl; have hfz131_0 := blk_frozen BK233.out 0; have hfz131_1 := blk_frozen BK233.out 1) | ((with_reducible refine gate_callee (f := 22) rfl ?_); refine goesL_ (some 112) rfl rfl Try.func22 (by kernel_rfl) rfl #[.agg #[.slice A0_0 l0_0.length c0_0, .slice A0_1 l0_1.length c0_1], .slice A2 l2.length c2] rfl (by (try simp only [List.map_toArray, List.map_cons, List.map_nil]); first | done | rfl | (simp only [List.length_drop, List.length_take]; rfl)) ?_; (with_reducible refine (curtilageref05_Find.calls kj27 _ _ l0_0 _ _ l0_1 _ _ l2 t289 t290 _ ?side1 ?side2 ?side3 ?side4 ?side5 ?side6 A60.out).mono ?_); (case side1 => repeat (first|exact (Kd.C_below HR0_0.out HB.out) | (with_reducible refine Kd.C_alloc ?_ _) | (with_reducible refine Kd.C_drewN ?_ _) | (with_reducible refine Kd.C_drew ?_))); (case side2 => exact HC0_0.out); (case side3 => repeat (first|exact (Kd.C_below HR0_1.out HB.out) | (with_reducible refine Kd.C_alloc ?_ _) | (with_reducible refine Kd.C_drewN ?_ _) | (with_reducible refine Kd.C_drew ?_))); (case side4 => exact HC0_1.out); (case side5 => repeat (first|exact (Kd.C_below HR2.out HB.out) | (with_reducible refine Kd.C_alloc ?_ _) | (with_reducible refine Kd.C_drewN ?_ _) | (with_reducible refine Kd.C_drew ?_))); (case side6 => exact HC2.out); rintro e w132 ⟨rfl, hb⟩; refine ⟨_, rfl, ?_⟩; have n0_ := Q4 (Kd.V_below (by (with_reducible repeat (first|apply Kd.V_alloc|apply Kd.V_drewN|apply Kd.V_drew)); exact HO247.out) hb); have n1_ := Q4 (Kd.V_below (by (with_reducible repeat (first|apply Kd.V_alloc|apply Kd.V_drewN|apply Kd.V_drew)); exact HO250.out) hb); have n2_ := Q4 (Kd.V_below (by (with_reducible repeat (first|apply Kd.V_alloc|apply Kd.V_drewN|apply Kd.V_drew)); exact HO256.out) hb); have n3_ := Q4 (Kd.V_below (by (with_reducible repeat (first|apply Kd.V_alloc|apply Kd.V_drewN|apply Kd.V_drew)); exact HO259.out) hb); have n4_ := Q4 (Kd.V_below (by (with_reducible repeat (first|apply Kd.V_alloc|apply Kd.V_drewN|apply Kd.V_drew)); exact HO265.out) hb); have n5_ := Q4 (Kd.V_below (by (with_reducible repeat (first|apply Kd.V_alloc|apply Kd.V_drewN|apply Kd.V_drew)); exact HO268.out) hb); have n6_ := Q4 (Kd.V_below (by (with_reducible repeat (first|apply Kd.V_alloc|apply Kd.V_drewN|apply Kd.V_drew)); exact HO273.out) hb); have n7_ := Q4 (Kd.V_below (by (with_reducible repeat (first|apply Kd.V_alloc|apply Kd.V_drewN|apply Kd.V_drew)); exact HO276.out) hb); have n8_ := Q4 (Kd.R_below (by (with_reducible repeat (first|apply Kd.R_alloc|apply Kd.R_drewN|apply Kd.R_drew)); exact HO281.out) hb); have n9_ := Q4 (Kd.V_below (by (with_reducible repeat (first|apply Kd.V_alloc|apply Kd.V_drewN|apply Kd.V_drew)); exact HO285.out) hb); have n10_ := Q4 (blk_below (g := gb233) (o := .cells #[.slice A0_0 l0_0.length c0_0, .slice A0_1 l0_1.length c0_1] 27 (0, 0)) (by (with_reducible repeat (first|refine Qa ?_ _|refine Qb ?_|refine Q7 ?_ _)); exact BK233.out) hb); have n11_ := Q4 (blk_below (g := gb234) (o := .cells #[.slice A1_0 l1_0.length c1_0, .slice A1_1 l1_1.length c1_1] 27 (0, 0)) (by (with_reducible repeat (first|refine Qa ?_ _|refine Qb ?_|refine Q7 ?_ _)); exact BK234.out) hb); have n12_ := Q4 (blk_below (g := gb253) (o := .cells #[.slice Ao87 t245.length co87, .slice Ao91 t248.length co91] 27 (0, 0)) (by (with_reducible repeat (first|refine Qa ?_ _|refine Qb ?_|refine Q7 ?_ _)); exact BK253.out) hb); have n13_ := Q4 (blk_below (g := gb262) (o := .cells #[.slice Ao96 t254.length co96, .slice Ao101 t257.length co101] 27 (0, 0)) (by (with_reducible repeat (first|refine Qa ?_ _|refine Qb ?_|refine Q7 ?_ _)); exact BK262.out) hb); have n14_ := Q4 (blk_below (g := gb270) (o := .cells #[.slice Ao106 t263.length co106, .slice Ao112 t266.length co112] 27 (0, 0)) (by (with_reducible repeat (first|refine Qa ?_ _|refine Qb ?_|refine Q7 ?_ _)); exact BK270.out) hb); have n15_ := Q4 (blk_below (g := gb278) (o := .cells #[.slice Ao117 t271.length co117, .slice Ao124 t274.length co124] 27 (0, 0)) (by (with_reducible repeat (first|refine Qa ?_ _|refine Qb ?_|refine Q7 ?_ _)); exact BK278.out) hb); have n16_ := Q4 (below_step (by repeat (first | (with_reducible first|exact HB.out|apply Q8|apply Q5|apply Q9|refine Q6 ?_ GE233.out|refine Q6 ?_ GE234.out|refine Q6 ?_ GE253.out|refine Q6 ?_ GE262.out|refine Q6 ?_ GE270.out|refine Q6 ?_ GE278.out)|exact HB.out)) hb); clear HO247; clear HO250; clear HO256; clear HO259; clear HO265; clear HO268; clear HO273; clear HO276; clear HO281; clear HO285; clear BK233; clear BK234; clear BK253; clear BK262; clear BK270; clear BK278; clear HB; have HO247 := n0_; have HO250 := n1_; have HO256 := n2_; have HO259 := n3_; have HO265 := n4_; have HO268 := n5_; have HO273 := n6_; have HO276 := n7_; have HO281 := n8_; have HO285 := n9_; have BK233 := n10_; have BK234 := n11_; have BK253 := n12_; have BK262 := n13_; have BK270 := n14_; have BK278 := n15_; have HB := n16_; clear n0_ n1_ n2_ n3_ n4_ n5_ n6_ n7_ n8_ n9_ n10_ n11_ n12_ n13_ n14_ n15_ n16_; (try clear hb); (try clear hb2); (try clear hk); (try clear hi)))
                    have n0_ := Q4 (Kd.V_drew HO247.out)
                    have n1_ := Q4 (Kd.V_drew HO250.out)
                    have n2_ := Q4 (Kd.V_drew HO256.out)
                    have n3_ := Q4 (Kd.V_drew HO259.out)
                    have n4_ := Q4 (Kd.V_drew HO265.out)
                    have n5_ := Q4 (Kd.V_drew HO268.out)
                    have n6_ := Q4 (Kd.V_drew HO273.out)
                    have n7_ := Q4 (Kd.V_drew HO276.out)
                    have n8_ := Q4 (Kd.R_drew HO281.out)
                    have n9_ := Q4 (Kd.V_drew HO285.out)
                    have n10_ := Q4 (Qb BK233.out)
                    have n11_ := Q4 (Qb BK234.out)
                    have n12_ := Q4 (Qb BK253.out)
                    have n13_ := Q4 (Qb BK262.out)
                    have n14_ := Q4 (Qb BK270.out)
                    have n15_ := Q4 (Qb BK278.out)
                    have n16_ := Q4 (Q9 HB.out)
                    clear HO247
                    clear HO250
                    clear HO256
                    clear HO259
                    clear HO265
                    clear HO268
                    clear HO273
                    clear HO276
                    clear HO281
                    clear HO285
                    clear BK233
                    clear BK234
                    clear BK253
                    clear BK262
                    clear BK270
                    clear BK278
                    clear HB
                    have HO247 := n0_
                    have HO250 := n1_
                    have HO256 := n2_
                    have HO259 := n3_
                    have HO265 := n4_
                    have HO268 := n5_
                    have HO273 := n6_
                    have HO276 := n7_
                    have HO281 := n8_
                    have HO285 := n9_
                    have BK233 := n10_
                    have BK234 := n11_
                    have BK253 := n12_
                    have BK262 := n13_
                    have BK270 := n14_
                    have BK278 := n15_
                    have HB := n16_
                    clear n0_ n1_ n2_ n3_ n4_ n5_ n6_ n7_ n8_ n9_ n10_ n11_ n12_ n13_ n14_ n15_ n16_
                    refine start_ (n := 62) (S := fun w' => w'.cell? ⟨gb253, 0, none⟩ = some (.slice Ao87 t245.length co87) ∧ w'.cell? ⟨gb253, 1, none⟩ = some (.slice Ao91 t248.length co91) ∧ w'.cell? ⟨gb262, 0, none⟩ = some (.slice Ao96 t254.length co96) ∧ w'.cell? ⟨gb262, 1, none⟩ = some (.slice Ao101 t257.length co101) ∧ w'.cell? ⟨gb270, 0, none⟩ = some (.slice Ao106 t263.length co106) ∧ w'.cell? ⟨gb270, 1, none⟩ = some (.slice Ao112 t266.length co112) ∧ w'.cell? ⟨gb278, 0, none⟩ = some (.slice Ao117 t271.length co117) ∧ w'.cell? ⟨gb278, 1, none⟩ = some (.slice Ao124 t274.length co124) ∧ w'.cell? ⟨gb233, 0, none⟩ = some (.slice A0_0 l0_0.length c0_0) ∧ w'.cell? ⟨gb233, 1, none⟩ = some (.slice A0_1 l0_1.length c0_1)) (ds := []) #[false,false,false,false,false,false,false,false,false,false,false,false,false,false,false,false,false,false,false,false,false,false,false,false,false,false,false,false,false,false,false,false,false,false,false,false,false,false,false,false,false,false,false,false,false,false,false,false,false,false,false,false,false,false,false,false,false,false,false,false,false,false] (by kernel_rfl) rfl rfl ⟨(blk_cell BK253.out 0).trans rfl, (blk_cell BK253.out 1).trans rfl, (blk_cell BK262.out 0).trans rfl, (blk_cell BK262.out 1).trans rfl, (blk_cell BK270.out 0).trans rfl, (blk_cell BK270.out 1).trans rfl, (blk_cell BK278.out 0).trans rfl, (blk_cell BK278.out 1).trans rfl, (blk_cell BK233.out 0).trans rfl, (blk_cell BK233.out 1).trans rfl⟩ (fun hHeld => ?_); refine with_tabW curtilagelaw05_InternDoes.tab15 curtilagelaw05_InternDoes.bits15 (fun HT_ HW_ => ?_)
                    generalize w132.drew = w133 at HO247 HO250 HO256 HO259 HO265 HO268 HO273 HO276 HO281 HO285 BK233 BK234 BK253 BK262 BK270 BK278 HB hHeld ⊢
                    refine take_ (i := 0) (N := some 115) (v := ?_) (a' := ?_) #[true,false,false,false,false,false,false,false,false,false,false,false,false,false,false,false,false,false,false,false,false,false,false,false,false,false,false,false,false,false,false,false,false,false,false,false,false,false,false,false,false,false,false,false,false,false,false,false,false,false,false,false,false,false,false,false,false,false,false,false,false,false] rfl rfl (take_ofW HT_.out HW_.out (by kernel_rfl)) (fun _ _ _ h => h) (Or.inl ⟨by rfl, ?_⟩) hHeld ?_ ?_
                    rotate_left
                    ·rintro w' ⟨s0, s1, s2, s3, s4, s5, s6, s7, s8, s9⟩
                     go_simp
                     with_reducible rfl
                    rotate_left
                    ·simp only [Act.put, Q1,Q2,Q3, i64_w, i32_w]
                     rfl
                    refine take_ (i := 1) (N := some 116) (v := ?_) (a' := ?_) #[true,true,false,false,false,false,false,false,false,false,false,false,false,false,false,false,false,false,false,false,false,false,false,false,false,false,false,false,false,false,false,false,false,false,false,false,false,false,false,false,false,false,false,false,false,false,false,false,false,false,false,false,false,false,false,false,false,false,false,false,false,false] rfl rfl (take_ofW HT_.out HW_.out (by kernel_rfl)) (fun _ _ _ h => h) (Or.inl ⟨by rfl, ?_⟩) hHeld ?_ ?_
                    rotate_left
                    ·rintro w' ⟨s0, s1, s2, s3, s4, s5, s6, s7, s8, s9⟩
                     go_simp
                     with_reducible rfl
                    rotate_left
                    ·simp only [Act.put, Q1,Q2,Q3, i64_w, i32_w]
                     rfl
                    refine one_ (i := 2) (N := some 117) #[true,true,true,false,false,false,false,false,false,false,false,false,false,false,false,false,false,false,false,false,false,false,false,false,false,false,false,false,false,false,false,false,false,false,false,false,false,false,false,false,false,false,false,false,false,false,false,false,false,false,false,false,false,false,false,false,false,false,false,false,false,false] rfl rfl (one_of HT_.out (by kernel_rfl)) (by decide) (fun K hK => ?_)
                    refine goes_ Try.func17 (by kernel_rfl) rfl #[.agg #[.slice Ao87 t245.length co87, .slice Ao91 t248.length co91], .agg #[.slice Ao96 t254.length co96, .slice Ao101 t257.length co101]] (by rfl) rfl rfl (by (try simp only [List.map_toArray, List.map_cons, List.map_nil]); first | done | rfl | (simp only [List.length_drop, List.length_take]; rfl)) ?_
                    with_reducible refine (curtilageref05_Same.calls kj27 _ _ t245 _ _ t248 _ _ t254 _ _ t257 true _ ?side1 ?side2 ?side3 ?side4 ?side5 ?side6 ?side7 ?side8 A61.out).mono ?_
                    (case side1 => repeat (first|exact (Kd.V_reads' HO247.out).2.2 | (with_reducible refine Kd.C_alloc ?_ _) | (with_reducible refine Kd.C_drewN ?_ _) | (with_reducible refine Kd.C_drew ?_)))
                    (case side2 => exact (Kd.V_reads' HO247.out).2.1)
                    (case side3 => repeat (first|exact (Kd.V_reads' HO250.out).2.2 | (with_reducible refine Kd.C_alloc ?_ _) | (with_reducible refine Kd.C_drewN ?_ _) | (with_reducible refine Kd.C_drew ?_)))
                    (case side4 => exact (Kd.V_reads' HO250.out).2.1)
                    (case side5 => repeat (first|exact (Kd.V_reads' HO256.out).2.2 | (with_reducible refine Kd.C_alloc ?_ _) | (with_reducible refine Kd.C_drewN ?_ _) | (with_reducible refine Kd.C_drew ?_)))
                    (case side6 => exact (Kd.V_reads' HO256.out).2.1)
                    (case side7 => repeat (first|exact (Kd.V_reads' HO259.out).2.2 | (with_reducible refine Kd.C_alloc ?_ _) | (with_reducible refine Kd.C_drewN ?_ _) | (with_reducible refine Kd.C_drew ?_)))
                    (case side8 => exact (Kd.V_reads' HO259.out).2.1)
                    rintro e w134 ⟨rfl, hb⟩
                    refine ⟨_, rfl, ?_⟩
                    have n0_ := Q4 (Kd.V_below (by (with_reducible repeat (first|apply Kd.V_alloc|apply Kd.V_drewN|apply Kd.V_drew)); exact HO247.out) hb)
                    have n1_ := Q4 (Kd.V_below (by (with_reducible repeat (first|apply Kd.V_alloc|apply Kd.V_drewN|apply Kd.V_drew)); exact HO250.out) hb)
                    have n2_ := Q4 (Kd.V_below (by (with_reducible repeat (first|apply Kd.V_alloc|apply Kd.V_drewN|apply Kd.V_drew)); exact HO256.out) hb)
                    have n3_ := Q4 (Kd.V_below (by (with_reducible repeat (first|apply Kd.V_alloc|apply Kd.V_drewN|apply Kd.V_drew)); exact HO259.out) hb)
                    have n4_ := Q4 (Kd.V_below (by (with_reducible repeat (first|apply Kd.V_alloc|apply Kd.V_drewN|apply Kd.V_drew)); exact HO265.out) hb)
                    have n5_ := Q4 (Kd.V_below (by (with_reducible repeat (first|apply Kd.V_alloc|apply Kd.V_drewN|apply Kd.V_drew)); exact HO268.out) hb)
                    have n6_ := Q4 (Kd.V_below (by (with_reducible repeat (first|apply Kd.V_alloc|apply Kd.V_drewN|apply Kd.V_drew)); exact HO273.out) hb)
                    have n7_ := Q4 (Kd.V_below (by (with_reducible repeat (first|apply Kd.V_alloc|apply Kd.V_drewN|apply Kd.V_drew)); exact HO276.out) hb)
                    have n8_ := Q4 (Kd.R_below (by (with_reducible repeat (first|apply Kd.R_alloc|apply Kd.R_drewN|apply Kd.R_drew)); exact HO281.out) hb)
                    have n9_ := Q4 (Kd.V_below (by (with_reducible repeat (first|apply Kd.V_alloc|apply Kd.V_drewN|apply Kd.V_drew)); exact HO285.out) hb)
                    have n10_ := Q4 (blk_below (g := gb233) (o := .cells #[.slice A0_0 l0_0.length c0_0, .slice A0_1 l0_1.length c0_1] 27 (0, 0)) (by (with_reducible repeat (first|refine Qa ?_ _|refine Qb ?_|refine Q7 ?_ _)); exact BK233.out) hb)
                    have n11_ := Q4 (blk_below (g := gb234) (o := .cells #[.slice A1_0 l1_0.length c1_0, .slice A1_1 l1_1.length c1_1] 27 (0, 0)) (by (with_reducible repeat (first|refine Qa ?_ _|refine Qb ?_|refine Q7 ?_ _)); exact BK234.out) hb)
                    have n12_ := Q4 (blk_below (g := gb253) (o := .cells #[.slice Ao87 t245.length co87, .slice Ao91 t248.length co91] 27 (0, 0)) (by (with_reducible repeat (first|refine Qa ?_ _|refine Qb ?_|refine Q7 ?_ _)); exact BK253.out) hb)
                    have n13_ := Q4 (blk_below (g := gb262) (o := .cells #[.slice Ao96 t254.length co96, .slice Ao101 t257.length co101] 27 (0, 0)) (by (with_reducible repeat (first|refine Qa ?_ _|refine Qb ?_|refine Q7 ?_ _)); exact BK262.out) hb)
                    have n14_ := Q4 (blk_below (g := gb270) (o := .cells #[.slice Ao106 t263.length co106, .slice Ao112 t266.length co112] 27 (0, 0)) (by (with_reducible repeat (first|refine Qa ?_ _|refine Qb ?_|refine Q7 ?_ _)); exact BK270.out) hb)
                    have n15_ := Q4 (blk_below (g := gb278) (o := .cells #[.slice Ao117 t271.length co117, .slice Ao124 t274.length co124] 27 (0, 0)) (by (with_reducible repeat (first|refine Qa ?_ _|refine Qb ?_|refine Q7 ?_ _)); exact BK278.out) hb)
                    have n16_ := Q4 (below_step (by repeat (first | (with_reducible first|exact HB.out|apply Q8|apply Q5|apply Q9|refine Q6 ?_ GE233.out|refine Q6 ?_ GE234.out|refine Q6 ?_ GE253.out|refine Q6 ?_ GE262.out|refine Q6 ?_ GE270.out|refine Q6 ?_ GE278.out)|exact HB.out)) hb)
                    clear HO247
                    clear HO250
                    clear HO256
                    clear HO259
                    clear HO265
                    clear HO268
                    clear HO273
                    clear HO276
                    clear HO281
                    clear HO285
                    clear BK233
                    clear BK234
                    clear BK253
                    clear BK262
                    clear BK270
                    clear BK278
                    clear HB
                    have HO247 := n0_
                    have HO250 := n1_
                    have HO256 := n2_
                    have HO259 := n3_
                    have HO265 := n4_
                    have HO268 := n5_
                    have HO273 := n6_
                    have HO276 := n7_
                    have HO281 := n8_
                    have HO285 := n9_
                    have BK233 := n10_
                    have BK234 := n11_
                    have BK253 := n12_
                    have BK262 := n13_
                    have BK270 := n14_
                    have BK278 := n15_
                    have HB := n16_
                    clear n0_ n1_ n2_ n3_ n4_ n5_ n6_ n7_ n8_ n9_ n10_ n11_ n12_ n13_ n14_ n15_ n16_
                    refine hK.out _ _ ⟨(blk_cell BK253.out 0).trans rfl, (blk_cell BK253.out 1).trans rfl, (blk_cell BK262.out 0).trans rfl, (blk_cell BK262.out 1).trans rfl, (blk_cell BK270.out 0).trans rfl, (blk_cell BK270.out 1).trans rfl, (blk_cell BK278.out 0).trans rfl, (blk_cell BK278.out 1).trans rfl, (blk_cell BK233.out 0).trans rfl, (blk_cell BK233.out 1).trans rfl⟩ (fun hHeld => ?_)
                    clear hK K
                    refine norm_ (a' := ?_) ?_ ?_
                    rotate_left
                    ·show Act.put _ (some 117) _ = _
                     simp only [Act.put, Q1,Q2,Q3, i64_w, i32_w]
                     rfl
                    refine pure_ (i := 3) (N := some 118) (v := ?_) (a' := ?_) #[true,true,true,true,false,false,false,false,false,false,false,false,false,false,false,false,false,false,false,false,false,false,false,false,false,false,false,false,false,false,false,false,false,false,false,false,false,false,false,false,false,false,false,false,false,false,false,false,false,false,false,false,false,false,false,false,false,false,false,false,false,false] rfl rfl (any_of HT_.out (by kernel_rfl)) (fun _ _ _ h => h) (Or.inl ⟨by rfl, ?_⟩) ?_ ?_
                    rotate_left
                    ·intro w'
                     go_simp
                     with_reducible rfl
                    rotate_left
                    ·simp only [Act.put, Q1,Q2,Q3, i64_w, i32_w]
                     rfl
                    refine pure_ (i := 4) (N := some 119) (v := ?_) (a' := ?_) #[true,true,true,true,true,false,false,false,false,false,false,false,false,false,false,false,false,false,false,false,false,false,false,false,false,false,false,false,false,false,false,false,false,false,false,false,false,false,false,false,false,false,false,false,false,false,false,false,false,false,false,false,false,false,false,false,false,false,false,false,false,false] rfl rfl (any_of HT_.out (by kernel_rfl)) (fun _ _ _ h => h) (Or.inl ⟨by rfl, ?_⟩) ?_ ?_
                    rotate_left
                    ·intro w'
                     go_simp
                     with_reducible rfl
                    rotate_left
                    ·simp only [Act.put, Q1,Q2,Q3, i64_w, i32_w]
                     rfl
                    refine pure_ (i := 5) (N := some 120) (v := ?_) (a' := ?_) #[true,true,true,true,true,true,false,false,false,false,false,false,false,false,false,false,false,false,false,false,false,false,false,false,false,false,false,false,false,false,false,false,false,false,false,false,false,false,false,false,false,false,false,false,false,false,false,false,false,false,false,false,false,false,false,false,false,false,false,false,false,false] rfl rfl (any_of HT_.out (by kernel_rfl)) (fun _ _ _ h => h) (Or.inl ⟨by rfl, ?_⟩) ?_ ?_
                    rotate_left
                    ·intro w'
                     go_simp
                     with_reducible rfl
                    rotate_left
                    ·simp only [Act.put, Q1,Q2,Q3, i64_w, i32_w]
                     rfl
                    refine pure_ (i := 6) (N := some 121) (v := ?_) (a' := ?_) #[true,true,true,true,true,true,true,false,false,false,false,false,false,false,false,false,false,false,false,false,false,false,false,false,false,false,false,false,false,false,false,false,false,false,false,false,false,false,false,false,false,false,false,false,false,false,false,false,false,false,false,false,false,false,false,false,false,false,false,false,false,false] rfl rfl (any_of HT_.out (by kernel_rfl)) (fun _ _ _ h => h) (Or.inl ⟨by rfl, ?_⟩) ?_ ?_
                    rotate_left
                    ·intro w'
                     go_simp
                     with_reducible rfl
                    rotate_left
                    ·simp only [Act.put, Q1,Q2,Q3, i64_w, i32_w]
                     rfl
                    refine pure_ (i := 7) (N := some 122) (v := ?_) (a' := ?_) #[true,true,true,true,true,true,true,true,false,false,false,false,false,false,false,false,false,false,false,false,false,false,false,false,false,false,false,false,false,false,false,false,false,false,false,false,false,false,false,false,false,false,false,false,false,false,false,false,false,false,false,false,false,false,false,false,false,false,false,false,false,false] rfl rfl (any_of HT_.out (by kernel_rfl)) (fun _ _ _ h => h) (Or.inl ⟨by rfl, ?_⟩) ?_ ?_
                    rotate_left
                    ·intro w'
                     go_simp
                     with_reducible rfl
                    rotate_left
                    ·simp only [Act.put, Q1,Q2,Q3, i64_w, i32_w]
                     rfl
                    refine pure_ (i := 8) (N := some 123) (v := ?_) (a' := ?_) #[true,true,true,true,true,true,true,true,true,false,false,false,false,false,false,false,false,false,false,false,false,false,false,false,false,false,false,false,false,false,false,false,false,false,false,false,false,false,false,false,false,false,false,false,false,false,false,false,false,false,false,false,false,false,false,false,false,false,false,false,false,false] rfl rfl (any_of HT_.out (by kernel_rfl)) (fun _ _ _ h => h) (Or.inl ⟨by rfl, ?_⟩) ?_ ?_
                    rotate_left
                    ·intro w'
                     go_simp
                     with_reducible rfl
                    rotate_left
                    ·simp only [Act.put, Q1,Q2,Q3, i64_w, i32_w]
                     rfl
                    refine pure_ (i := 9) (N := some 124) (v := ?_) (a' := ?_) #[true,true,true,true,true,true,true,true,true,true,false,false,false,false,false,false,false,false,false,false,false,false,false,false,false,false,false,false,false,false,false,false,false,false,false,false,false,false,false,false,false,false,false,false,false,false,false,false,false,false,false,false,false,false,false,false,false,false,false,false,false,false] rfl rfl (any_of HT_.out (by kernel_rfl)) (fun _ _ _ h => h) (Or.inl ⟨by rfl, ?_⟩) ?_ ?_
                    rotate_left
                    ·intro w'
                     go_simp
                     with_reducible rfl
                    rotate_left
                    ·simp only [Act.put, Q1,Q2,Q3, i64_w, i32_w]
                     rfl
                    refine pure_ (i := 10) (N := some 125) (v := ?_) (a' := ?_) #[true,true,true,true,true,true,true,true,true,true,true,false,false,false,false,false,false,false,false,false,false,false,false,false,false,false,false,false,false,false,false,false,false,false,false,false,false,false,false,false,false,false,false,false,false,false,false,false,false,false,false,false,false,false,false,false,false,false,false,false,false,false] rfl rfl (any_of HT_.out (by kernel_rfl)) (fun _ _ _ h => h) (Or.inl ⟨by rfl, ?_⟩) ?_ ?_
                    rotate_left
                    ·intro w'
                     go_simp
                     with_reducible rfl
                    rotate_left
                    ·simp only [Act.put, Q1,Q2,Q3, i64_w, i32_w]
                     rfl
                    refine pure_ (i := 11) (N := some 126) (v := ?_) (a' := ?_) #[true,true,true,true,true,true,true,true,true,true,true,true,false,false,false,false,false,false,false,false,false,false,false,false,false,false,false,false,false,false,false,false,false,false,false,false,false,false,false,false,false,false,false,false,false,false,false,false,false,false,false,false,false,false,false,false,false,false,false,false,false,false] rfl rfl (any_of HT_.out (by kernel_rfl)) (fun _ _ _ h => h) (Or.inl ⟨by rfl, ?_⟩) ?_ ?_
                    rotate_left
                    ·intro w'
                     go_simp
                     with_reducible rfl
                    rotate_left
                    ·simp only [Act.put, Q1,Q2,Q3, i64_w, i32_w]
                     rfl
                    refine pure_ (i := 12) (N := some 127) (v := ?_) (a' := ?_) #[true,true,true,true,true,true,true,true,true,true,true,true,true,false,false,false,false,false,false,false,false,false,false,false,false,false,false,false,false,false,false,false,false,false,false,false,false,false,false,false,false,false,false,false,false,false,false,false,false,false,false,false,false,false,false,false,false,false,false,false,false,false] rfl rfl (any_of HT_.out (by kernel_rfl)) (fun _ _ _ h => h) (Or.inl ⟨by rfl, ?_⟩) ?_ ?_
                    rotate_left
                    ·intro w'
                     go_simp
                     with_reducible rfl
                    rotate_left
                    ·simp only [Act.put, Q1,Q2,Q3, i64_w, i32_w]
                     rfl
                    refine pure_ (i := 13) (N := some 128) (v := ?_) (a' := ?_) #[true,true,true,true,true,true,true,true,true,true,true,true,true,true,false,false,false,false,false,false,false,false,false,false,false,false,false,false,false,false,false,false,false,false,false,false,false,false,false,false,false,false,false,false,false,false,false,false,false,false,false,false,false,false,false,false,false,false,false,false,false,false] rfl rfl (any_of HT_.out (by kernel_rfl)) (fun _ _ _ h => h) (Or.inl ⟨by rfl, ?_⟩) ?_ ?_
                    rotate_left
                    ·intro w'
                     go_simp
                     with_reducible rfl
                    rotate_left
                    ·simp only [Act.put, Q1,Q2,Q3, i64_w, i32_w]
                     rfl
                    refine take_ (i := 14) (N := some 129) (v := ?_) (a' := ?_) #[true,true,true,true,true,true,true,true,true,true,true,true,true,true,true,false,false,false,false,false,false,false,false,false,false,false,false,false,false,false,false,false,false,false,false,false,false,false,false,false,false,false,false,false,false,false,false,false,false,false,false,false,false,false,false,false,false,false,false,false,false,false] rfl rfl (take_ofW HT_.out HW_.out (by kernel_rfl)) (fun _ _ _ h => h) (Or.inl ⟨by rfl, ?_⟩) hHeld ?_ ?_
                    rotate_left
                    ·rintro w' ⟨s0, s1, s2, s3, s4, s5, s6, s7, s8, s9⟩
                     go_simp
                     with_reducible rfl
                    rotate_left
                    ·simp only [Act.put, Q1,Q2,Q3, i64_w, i32_w]
                     rfl
                    refine take_ (i := 15) (N := some 130) (v := ?_) (a' := ?_) #[true,true,true,true,true,true,true,true,true,true,true,true,true,true,true,true,false,false,false,false,false,false,false,false,false,false,false,false,false,false,false,false,false,false,false,false,false,false,false,false,false,false,false,false,false,false,false,false,false,false,false,false,false,false,false,false,false,false,false,false,false,false] rfl rfl (take_ofW HT_.out HW_.out (by kernel_rfl)) (fun _ _ _ h => h) (Or.inl ⟨by rfl, ?_⟩) hHeld ?_ ?_
                    rotate_left
                    ·rintro w' ⟨s0, s1, s2, s3, s4, s5, s6, s7, s8, s9⟩
                     go_simp
                     with_reducible rfl
                    rotate_left
                    ·simp only [Act.put, Q1,Q2,Q3, i64_w, i32_w]
                     rfl
                    refine one_ (i := 16) (N := some 131) #[true,true,true,true,true,true,true,true,true,true,true,true,true,true,true,true,true,false,false,false,false,false,false,false,false,false,false,false,false,false,false,false,false,false,false,false,false,false,false,false,false,false,false,false,false,false,false,false,false,false,false,false,false,false,false,false,false,false,false,false,false,false] rfl rfl (one_of HT_.out (by kernel_rfl)) (by decide) (fun K hK => ?_)
                    refine goes_ Try.func17 (by kernel_rfl) rfl #[.agg #[.slice Ao106 t263.length co106, .slice Ao112 t266.length co112], .agg #[.slice Ao117 t271.length co117, .slice Ao124 t274.length co124]] (by rfl) rfl rfl (by (try simp only [List.map_toArray, List.map_cons, List.map_nil]); first | done | rfl | (simp only [List.length_drop, List.length_take]; rfl)) ?_
                    with_reducible refine (curtilageref05_Same.calls kj27 _ _ t263 _ _ t266 _ _ t271 _ _ t274 true _ ?side1 ?side2 ?side3 ?side4 ?side5 ?side6 ?side7 ?side8 A65.out).mono ?_
                    (case side1 => repeat (first|exact (Kd.V_reads' HO265.out).2.2 | (with_reducible refine Kd.C_alloc ?_ _) | (with_reducible refine Kd.C_drewN ?_ _) | (with_reducible refine Kd.C_drew ?_)))
                    (case side2 => exact (Kd.V_reads' HO265.out).2.1)
                    (case side3 => repeat (first|exact (Kd.V_reads' HO268.out).2.2 | (with_reducible refine Kd.C_alloc ?_ _) | (with_reducible refine Kd.C_drewN ?_ _) | (with_reducible refine Kd.C_drew ?_)))
                    (case side4 => exact (Kd.V_reads' HO268.out).2.1)
                    (case side5 => repeat (first|exact (Kd.V_reads' HO273.out).2.2 | (with_reducible refine Kd.C_alloc ?_ _) | (with_reducible refine Kd.C_drewN ?_ _) | (with_reducible refine Kd.C_drew ?_)))
                    (case side6 => exact (Kd.V_reads' HO273.out).2.1)
                    (case side7 => repeat (first|exact (Kd.V_reads' HO276.out).2.2 | (with_reducible refine Kd.C_alloc ?_ _) | (with_reducible refine Kd.C_drewN ?_ _) | (with_reducible refine Kd.C_drew ?_)))
                    (case side8 => exact (Kd.V_reads' HO276.out).2.1)
                    rintro e w135 ⟨rfl, hb⟩
                    refine ⟨_, rfl, ?_⟩
                    have n0_ := Q4 (Kd.V_below (by (with_reducible repeat (first|apply Kd.V_alloc|apply Kd.V_drewN|apply Kd.V_drew)); exact HO247.out) hb)
                    have n1_ := Q4 (Kd.V_below (by (with_reducible repeat (first|apply Kd.V_alloc|apply Kd.V_drewN|apply Kd.V_drew)); exact HO250.out) hb)
                    have n2_ := Q4 (Kd.V_below (by (with_reducible repeat (first|apply Kd.V_alloc|apply Kd.V_drewN|apply Kd.V_drew)); exact HO256.out) hb)
                    have n3_ := Q4 (Kd.V_below (by (with_reducible repeat (first|apply Kd.V_alloc|apply Kd.V_drewN|apply Kd.V_drew)); exact HO259.out) hb)
                    have n4_ := Q4 (Kd.V_below (by (with_reducible repeat (first|apply Kd.V_alloc|apply Kd.V_drewN|apply Kd.V_drew)); exact HO265.out) hb)
                    have n5_ := Q4 (Kd.V_below (by (with_reducible repeat (first|apply Kd.V_alloc|apply Kd.V_drewN|apply Kd.V_drew)); exact HO268.out) hb)
                    have n6_ := Q4 (Kd.V_below (by (with_reducible repeat (first|apply Kd.V_alloc|apply Kd.V_drewN|apply Kd.V_drew)); exact HO273.out) hb)
                    have n7_ := Q4 (Kd.V_below (by (with_reducible repeat (first|apply Kd.V_alloc|apply Kd.V_drewN|apply Kd.V_drew)); exact HO276.out) hb)
                    have n8_ := Q4 (Kd.R_below (by (with_reducible repeat (first|apply Kd.R_alloc|apply Kd.R_drewN|apply Kd.R_drew)); exact HO281.out) hb)
                    have n9_ := Q4 (Kd.V_below (by (with_reducible repeat (first|apply Kd.V_alloc|apply Kd.V_drewN|apply Kd.V_drew)); exact HO285.out) hb)
                    have n10_ := Q4 (blk_below (g := gb233) (o := .cells #[.slice A0_0 l0_0.length c0_0, .slice A0_1 l0_1.length c0_1] 27 (0, 0)) (by (with_reducible repeat (first|refine Qa ?_ _|refine Qb ?_|refine Q7 ?_ _)); exact BK233.out) hb)
                    have n11_ := Q4 (blk_below (g := gb234) (o := .cells #[.slice A1_0 l1_0.length c1_0, .slice A1_1 l1_1.length c1_1] 27 (0, 0)) (by (with_reducible repeat (first|refine Qa ?_ _|refine Qb ?_|refine Q7 ?_ _)); exact BK234.out) hb)
                    have n12_ := Q4 (blk_below (g := gb253) (o := .cells #[.slice Ao87 t245.length co87, .slice Ao91 t248.length co91] 27 (0, 0)) (by (with_reducible repeat (first|refine Qa ?_ _|refine Qb ?_|refine Q7 ?_ _)); exact BK253.out) hb)
                    have n13_ := Q4 (blk_below (g := gb262) (o := .cells #[.slice Ao96 t254.length co96, .slice Ao101 t257.length co101] 27 (0, 0)) (by (with_reducible repeat (first|refine Qa ?_ _|refine Qb ?_|refine Q7 ?_ _)); exact BK262.out) hb)
                    have n14_ := Q4 (blk_below (g := gb270) (o := .cells #[.slice Ao106 t263.length co106, .slice Ao112 t266.length co112] 27 (0, 0)) (by (with_reducible repeat (first|refine Qa ?_ _|refine Qb ?_|refine Q7 ?_ _)); exact BK270.out) hb)
                    have n15_ := Q4 (blk_below (g := gb278) (o := .cells #[.slice Ao117 t271.length co117, .slice Ao124 t274.length co124] 27 (0, 0)) (by (with_reducible repeat (first|refine Qa ?_ _|refine Qb ?_|refine Q7 ?_ _)); exact BK278.out) hb)
                    have n16_ := Q4 (below_step (by repeat (first | (with_reducible first|exact HB.out|apply Q8|apply Q5|apply Q9|refine Q6 ?_ GE233.out|refine Q6 ?_ GE234.out|refine Q6 ?_ GE253.out|refine Q6 ?_ GE262.out|refine Q6 ?_ GE270.out|refine Q6 ?_ GE278.out)|exact HB.out)) hb)
                    clear HO247
                    clear HO250
                    clear HO256
                    clear HO259
                    clear HO265
                    clear HO268
                    clear HO273
                    clear HO276
                    clear HO281
                    clear HO285
                    clear BK233
                    clear BK234
                    clear BK253
                    clear BK262
                    clear BK270
                    clear BK278
                    clear HB
                    have HO247 := n0_
                    have HO250 := n1_
                    have HO256 := n2_
                    have HO259 := n3_
                    have HO265 := n4_
                    have HO268 := n5_
                    have HO273 := n6_
                    have HO276 := n7_
                    have HO281 := n8_
                    have HO285 := n9_
                    have BK233 := n10_
                    have BK234 := n11_
                    have BK253 := n12_
                    have BK262 := n13_
                    have BK270 := n14_
                    have BK278 := n15_
                    have HB := n16_
                    clear n0_ n1_ n2_ n3_ n4_ n5_ n6_ n7_ n8_ n9_ n10_ n11_ n12_ n13_ n14_ n15_ n16_
                    obtain ⟨Ao136, co136, eo136⟩ := Kd.R_slice HO281.out
                    (first | subst eo136 | (injection eo136 with f1_ f2_ f3_; have f4_ := f1_.symm; have f5_ := f3_.symm; clear f1_ f2_ f3_; subst f4_; subst f5_))
                    obtain ⟨Ao137, co137, eo137⟩ := Kd.V_slice HO285.out
                    (first | subst eo137 | (injection eo137 with f1_ f2_ f3_; have f4_ := f1_.symm; have f5_ := f3_.symm; clear f1_ f2_ f3_; subst f4_; subst f5_))
                    refine hK.out _ _ ⟨(blk_cell BK253.out 0).trans rfl, (blk_cell BK253.out 1).trans rfl, (blk_cell BK262.out 0).trans rfl, (blk_cell BK262.out 1).trans rfl, (blk_cell BK270.out 0).trans rfl, (blk_cell BK270.out 1).trans rfl, (blk_cell BK278.out 0).trans rfl, (blk_cell BK278.out 1).trans rfl, (blk_cell BK233.out 0).trans rfl, (blk_cell BK233.out 1).trans rfl⟩ (fun hHeld => ?_)
                    clear hK K
                    refine norm_ (a' := ?_) ?_ ?_
                    rotate_left
                    ·show Act.put _ (some 131) _ = _
                     simp only [Act.put, Q1,Q2,Q3, i64_w, i32_w]
                     rfl
                    refine pure_ (i := 17) (N := some 132) (v := ?_) (a' := ?_) #[true,true,true,true,true,true,true,true,true,true,true,true,true,true,true,true,true,true,false,false,false,false,false,false,false,false,false,false,false,false,false,false,false,false,false,false,false,false,false,false,false,false,false,false,false,false,false,false,false,false,false,false,false,false,false,false,false,false,false,false,false,false] rfl rfl (any_of HT_.out (by kernel_rfl)) (fun _ _ _ h => h) (Or.inl ⟨by rfl, ?_⟩) ?_ ?_
                    rotate_left
                    ·intro w'
                     go_simp
                     with_reducible rfl
                    rotate_left
                    ·simp only [Act.put, Q1,Q2,Q3, i64_w, i32_w]
                     rfl
                    refine pure_ (i := 18) (N := some 133) (v := ?_) (a' := ?_) #[true,true,true,true,true,true,true,true,true,true,true,true,true,true,true,true,true,true,true,false,false,false,false,false,false,false,false,false,false,false,false,false,false,false,false,false,false,false,false,false,false,false,false,false,false,false,false,false,false,false,false,false,false,false,false,false,false,false,false,false,false,false] rfl rfl (any_of HT_.out (by kernel_rfl)) (fun _ _ _ h => h) (Or.inl ⟨by rfl, ?_⟩) ?_ ?_
                    rotate_left
                    ·intro w'
                     go_simp
                     with_reducible rfl
                    rotate_left
                    ·simp only [Act.put, Q1,Q2,Q3, i64_w, i32_w]
                     rfl
                    refine pure_ (i := 19) (N := some 134) (v := ?_) (a' := ?_) #[true,true,true,true,true,true,true,true,true,true,true,true,true,true,true,true,true,true,true,true,false,false,false,false,false,false,false,false,false,false,false,false,false,false,false,false,false,false,false,false,false,false,false,false,false,false,false,false,false,false,false,false,false,false,false,false,false,false,false,false,false,false] rfl rfl (any_of HT_.out (by kernel_rfl)) (fun _ _ _ h => h) (Or.inl ⟨by rfl, ?_⟩) ?_ ?_
                    rotate_left
                    ·intro w'
                     go_simp
                     with_reducible rfl
                    rotate_left
                    ·simp only [Act.put, Q1,Q2,Q3, i64_w, i32_w]
                     rfl
                    refine pure_ (i := 20) (N := some 135) (v := ?_) (a' := ?_) #[true,true,true,true,true,true,true,true,true,true,true,true,true,true,true,true,true,true,true,true,true,false,false,false,false,false,false,false,false,false,false,false,false,false,false,false,false,false,false,false,false,false,false,false,false,false,false,false,false,false,false,false,false,false,false,false,false,false,false,false,false,false] rfl rfl (any_of HT_.out (by kernel_rfl)) (fun _ _ _ h => h) (Or.inl ⟨by rfl, ?_⟩) ?_ ?_
                    rotate_left
                    ·intro w'
                     go_simp
                     with_reducible rfl
                    rotate_left
                    ·simp only [Act.put, Q1,Q2,Q3, i64_w, i32_w]
                     rfl
                    refine pure_ (i := 21) (N := some 136) (v := ?_) (a' := ?_) #[true,true,true,true,true,true,true,true,true,true,true,true,true,true,true,true,true,true,true,true,true,true,false,false,false,false,false,false,false,false,false,false,false,false,false,false,false,false,false,false,false,false,false,false,false,false,false,false,false,false,false,false,false,false,false,false,false,false,false,false,false,false] rfl rfl (any_of HT_.out (by kernel_rfl)) (fun _ _ _ h => h) (Or.inl ⟨by rfl, ?_⟩) ?_ ?_
                    rotate_left
                    ·intro w'
                     go_simp
                     with_reducible rfl
                    rotate_left
                    ·simp only [Act.put, Q1,Q2,Q3, i64_w, i32_w]
                     rfl
                    refine pure_ (i := 22) (N := some 137) (v := ?_) (a' := ?_) #[true,true,true,true,true,true,true,true,true,true,true,true,true,true,true,true,true,true,true,true,true,true,true,false,false,false,false,false,false,false,false,false,false,false,false,false,false,false,false,false,false,false,false,false,false,false,false,false,false,false,false,false,false,false,false,false,false,false,false,false,false,false] rfl rfl (any_of HT_.out (by kernel_rfl)) (fun _ _ _ h => h) (Or.inl ⟨by rfl, ?_⟩) ?_ ?_
                    rotate_left
                    ·intro w'
                     go_simp
                     with_reducible rfl
                    rotate_left
                    ·simp only [Act.put, Q1,Q2,Q3, i64_w, i32_w]
                     rfl
                    refine pure_ (i := 23) (N := some 138) (v := ?_) (a' := ?_) #[true,true,true,true,true,true,true,true,true,true,true,true,true,true,true,true,true,true,true,true,true,true,true,true,false,false,false,false,false,false,false,false,false,false,false,false,false,false,false,false,false,false,false,false,false,false,false,false,false,false,false,false,false,false,false,false,false,false,false,false,false,false] rfl rfl (any_of HT_.out (by kernel_rfl)) (fun _ _ _ h => h) (Or.inl ⟨by rfl, ?_⟩) ?_ ?_
                    rotate_left
                    ·intro w'
                     go_simp
                     with_reducible rfl
                    rotate_left
                    ·simp only [Act.put, Q1,Q2,Q3, i64_w, i32_w]
                     rfl
                    refine pure_ (i := 24) (N := some 139) (v := ?_) (a' := ?_) #[true,true,true,true,true,true,true,true,true,true,true,true,true,true,true,true,true,true,true,true,true,true,true,true,true,false,false,false,false,false,false,false,false,false,false,false,false,false,false,false,false,false,false,false,false,false,false,false,false,false,false,false,false,false,false,false,false,false,false,false,false,false] rfl rfl (any_of HT_.out (by kernel_rfl)) (fun _ _ _ h => h) (Or.inl ⟨by rfl, ?_⟩) ?_ ?_
                    rotate_left
                    ·intro w'
                     go_simp
                     with_reducible rfl
                    rotate_left
                    ·simp only [Act.put, Q1,Q2,Q3, i64_w, i32_w]
                     rfl
                    refine pure_ (i := 25) (N := some 140) (v := ?_) (a' := ?_) #[true,true,true,true,true,true,true,true,true,true,true,true,true,true,true,true,true,true,true,true,true,true,true,true,true,true,false,false,false,false,false,false,false,false,false,false,false,false,false,false,false,false,false,false,false,false,false,false,false,false,false,false,false,false,false,false,false,false,false,false,false,false] rfl rfl (any_of HT_.out (by kernel_rfl)) (fun _ _ _ h => h) (Or.inl ⟨by rfl, ?_⟩) ?_ ?_
                    rotate_left
                    ·intro w'
                     go_simp
                     with_reducible rfl
                    rotate_left
                    ·simp only [Act.put, Q1,Q2,Q3, i64_w, i32_w]
                     rfl
                    refine one_ (i := 26) (N := some 141) #[true,true,true,true,true,true,true,true,true,true,true,true,true,true,true,true,true,true,true,true,true,true,true,true,true,true,true,false,false,false,false,false,false,false,false,false,false,false,false,false,false,false,false,false,false,false,false,false,false,false,false,false,false,false,false,false,false,false,false,false,false,false] rfl rfl (one_of HT_.out (by kernel_rfl)) (by decide) (fun K hK => ?_)
                    refine goes_ Try.func23 (by kernel_rfl) rfl #[.slice Ao136 t279.length co136, .slice Ao137 t283.length co137] (by rfl) rfl rfl (by (try simp only [List.map_toArray, List.map_cons, List.map_nil]); first | done | rfl | (simp only [List.length_drop, List.length_take]; rfl)) ?_
                    with_reducible refine (curtilageref02_Same.calls kj27 _ _ t279 _ _ t283 true _ ?side1 ?side2 ?side3 ?side4 A68.out).mono ?_
                    (case side1 => repeat (first|exact (Kd.R_reads' HO281.out).2.2 | (with_reducible refine Kd.C_alloc ?_ _) | (with_reducible refine Kd.C_drewN ?_ _) | (with_reducible refine Kd.C_drew ?_)))
                    (case side2 => exact (Kd.R_reads' HO281.out).2.1)
                    (case side3 => repeat (first|exact (Kd.V_reads' HO285.out).2.2 | (with_reducible refine Kd.C_alloc ?_ _) | (with_reducible refine Kd.C_drewN ?_ _) | (with_reducible refine Kd.C_drew ?_)))
                    (case side4 => exact (Kd.V_reads' HO285.out).2.1)
                    rintro e w' ⟨rfl, ⟨nd, rfl⟩⟩
                    refine ⟨_, rfl, ?_⟩
                    refine hK.out _ _ ⟨(blk_cell BK253.out 0).trans rfl, (blk_cell BK253.out 1).trans rfl, (blk_cell BK262.out 0).trans rfl, (blk_cell BK262.out 1).trans rfl, (blk_cell BK270.out 0).trans rfl, (blk_cell BK270.out 1).trans rfl, (blk_cell BK278.out 0).trans rfl, (blk_cell BK278.out 1).trans rfl, (blk_cell BK233.out 0).trans rfl, (blk_cell BK233.out 1).trans rfl⟩ (fun hHeld => ?_)
                    clear hK K
                    refine norm_ (a' := ?_) ?_ ?_
                    rotate_left
                    ·show Act.put _ (some 141) _ = _
                     simp only [Act.put, Q1,Q2,Q3, i64_w, i32_w]
                     rfl
                    refine pure_ (i := 27) (N := some 142) (v := ?_) (a' := ?_) #[true,true,true,true,true,true,true,true,true,true,true,true,true,true,true,true,true,true,true,true,true,true,true,true,true,true,true,true,false,false,false,false,false,false,false,false,false,false,false,false,false,false,false,false,false,false,false,false,false,false,false,false,false,false,false,false,false,false,false,false,false,false] rfl rfl (any_of HT_.out (by kernel_rfl)) (fun _ _ _ h => h) (Or.inl ⟨by rfl, ?_⟩) ?_ ?_
                    rotate_left
                    ·intro w'
                     go_simp
                     with_reducible rfl
                    rotate_left
                    ·simp only [Act.put, Q1,Q2,Q3, i64_w, i32_w]
                     rfl
                    refine pure_ (i := 28) (N := some 143) (v := ?_) (a' := ?_) #[true,true,true,true,true,true,true,true,true,true,true,true,true,true,true,true,true,true,true,true,true,true,true,true,true,true,true,true,true,false,false,false,false,false,false,false,false,false,false,false,false,false,false,false,false,false,false,false,false,false,false,false,false,false,false,false,false,false,false,false,false,false] rfl rfl (any_of HT_.out (by kernel_rfl)) (fun _ _ _ h => h) (Or.inl ⟨by rfl, ?_⟩) ?_ ?_
                    rotate_left
                    ·intro w'
                     go_simp
                     with_reducible rfl
                    rotate_left
                    ·simp only [Act.put, Q1,Q2,Q3, i64_w, i32_w]
                     rfl
                    refine pure_ (i := 29) (N := some 144) (v := ?_) (a' := ?_) #[true,true,true,true,true,true,true,true,true,true,true,true,true,true,true,true,true,true,true,true,true,true,true,true,true,true,true,true,true,true,false,false,false,false,false,false,false,false,false,false,false,false,false,false,false,false,false,false,false,false,false,false,false,false,false,false,false,false,false,false,false,false] rfl rfl (any_of HT_.out (by kernel_rfl)) (fun _ _ _ h => h) (Or.inl ⟨by rfl, ?_⟩) ?_ ?_
                    rotate_left
                    ·intro w'
                     go_simp
                     with_reducible rfl
                    rotate_left
                    ·simp only [Act.put, Q1,Q2,Q3, i64_w, i32_w]
                     rfl
                    refine pure_ (i := 30) (N := some 145) (v := ?_) (a' := ?_) #[true,true,true,true,true,true,true,true,true,true,true,true,true,true,true,true,true,true,true,true,true,true,true,true,true,true,true,true,true,true,true,false,false,false,false,false,false,false,false,false,false,false,false,false,false,false,false,false,false,false,false,false,false,false,false,false,false,false,false,false,false,false] rfl rfl (any_of HT_.out (by kernel_rfl)) (fun _ _ _ h => h) (Or.inl ⟨by rfl, ?_⟩) ?_ ?_
                    rotate_left
                    ·intro w'
                     go_simp
                     with_reducible rfl
                    rotate_left
                    ·simp only [Act.put, Q1,Q2,Q3, i64_w, i32_w]
                     rfl
                    refine pure_ (i := 31) (N := some 146) (v := ?_) (a' := ?_) #[true,true,true,true,true,true,true,true,true,true,true,true,true,true,true,true,true,true,true,true,true,true,true,true,true,true,true,true,true,true,true,true,false,false,false,false,false,false,false,false,false,false,false,false,false,false,false,false,false,false,false,false,false,false,false,false,false,false,false,false,false,false] rfl rfl (any_of HT_.out (by kernel_rfl)) (fun _ _ _ h => h) (Or.inl ⟨by rfl, ?_⟩) ?_ ?_
                    rotate_left
                    ·intro w'
                     go_simp
                     with_reducible rfl
                    rotate_left
                    ·simp only [Act.put, Q1,Q2,Q3, i64_w, i32_w]
                     rfl
                    refine pure_ (i := 32) (N := some 147) (v := ?_) (a' := ?_) #[true,true,true,true,true,true,true,true,true,true,true,true,true,true,true,true,true,true,true,true,true,true,true,true,true,true,true,true,true,true,true,true,true,false,false,false,false,false,false,false,false,false,false,false,false,false,false,false,false,false,false,false,false,false,false,false,false,false,false,false,false,false] rfl rfl (any_of HT_.out (by kernel_rfl)) (fun _ _ _ h => h) (Or.inl ⟨by rfl, ?_⟩) ?_ ?_
                    rotate_left
                    ·intro w'
                     go_simp
                     with_reducible rfl
                    rotate_left
                    ·simp only [Act.put, Q1,Q2,Q3, i64_w, i32_w]
                     rfl
                    refine pure_ (i := 33) (N := some 148) (v := ?_) (a' := ?_) #[true,true,true,true,true,true,true,true,true,true,true,true,true,true,true,true,true,true,true,true,true,true,true,true,true,true,true,true,true,true,true,true,true,true,false,false,false,false,false,false,false,false,false,false,false,false,false,false,false,false,false,false,false,false,false,false,false,false,false,false,false,false] rfl rfl (any_of HT_.out (by kernel_rfl)) (fun _ _ _ h => h) (Or.inl ⟨by rfl, ?_⟩) ?_ ?_
                    rotate_left
                    ·intro w'
                     go_simp
                     with_reducible rfl
                    rotate_left
                    ·simp only [Act.put, Q1,Q2,Q3, i64_w, i32_w]
                     rfl
                    refine pure_ (i := 34) (N := some 149) (v := ?_) (a' := ?_) #[true,true,true,true,true,true,true,true,true,true,true,true,true,true,true,true,true,true,true,true,true,true,true,true,true,true,true,true,true,true,true,true,true,true,true,false,false,false,false,false,false,false,false,false,false,false,false,false,false,false,false,false,false,false,false,false,false,false,false,false,false,false] rfl rfl (any_of HT_.out (by kernel_rfl)) (fun _ _ _ h => h) (Or.inl ⟨by rfl, ?_⟩) ?_ ?_
                    rotate_left
                    ·intro w'
                     go_simp
                     with_reducible rfl
                    rotate_left
                    ·simp only [Act.put, Q1,Q2,Q3, i64_w, i32_w]
                     rfl
                    refine pure_ (i := 35) (N := some 150) (v := ?_) (a' := ?_) #[true,true,true,true,true,true,true,true,true,true,true,true,true,true,true,true,true,true,true,true,true,true,true,true,true,true,true,true,true,true,true,true,true,true,true,true,false,false,false,false,false,false,false,false,false,false,false,false,false,false,false,false,false,false,false,false,false,false,false,false,false,false] rfl rfl (any_of HT_.out (by kernel_rfl)) (fun _ _ _ h => h) (Or.inl ⟨by rfl, ?_⟩) ?_ ?_
                    rotate_left
                    ·intro w'
                     go_simp
                     with_reducible rfl
                    rotate_left
                    ·simp only [Act.put, Q1,Q2,Q3, i64_w, i32_w]
                     rfl
                    refine pure_ (i := 36) (N := some 151) (v := ?_) (a' := ?_) #[true,true,true,true,true,true,true,true,true,true,true,true,true,true,true,true,true,true,true,true,true,true,true,true,true,true,true,true,true,true,true,true,true,true,true,true,true,false,false,false,false,false,false,false,false,false,false,false,false,false,false,false,false,false,false,false,false,false,false,false,false,false] rfl rfl (any_of HT_.out (by kernel_rfl)) (fun _ _ _ h => h) (Or.inl ⟨by rfl, ?_⟩) ?_ ?_
                    rotate_left
                    ·intro w'
                     go_simp
                     with_reducible rfl
                    rotate_left
                    ·simp only [Act.put, Q1,Q2,Q3, i64_w, i32_w]
                     rfl
                    refine pure_ (i := 37) (N := some 152) (v := ?_) (a' := ?_) #[true,true,true,true,true,true,true,true,true,true,true,true,true,true,true,true,true,true,true,true,true,true,true,true,true,true,true,true,true,true,true,true,true,true,true,true,true,true,false,false,false,false,false,false,false,false,false,false,false,false,false,false,false,false,false,false,false,false,false,false,false,false] rfl rfl (any_of HT_.out (by kernel_rfl)) (fun _ _ _ h => h) (Or.inl ⟨by rfl, ?_⟩) ?_ ?_
                    rotate_left
                    ·intro w'
                     go_simp
                     with_reducible rfl
                    rotate_left
                    ·simp only [Act.put, Q1,Q2,Q3, i64_w, i32_w]
                     rfl
                    refine pure_ (i := 38) (N := some 153) (v := ?_) (a' := ?_) #[true,true,true,true,true,true,true,true,true,true,true,true,true,true,true,true,true,true,true,true,true,true,true,true,true,true,true,true,true,true,true,true,true,true,true,true,true,true,true,false,false,false,false,false,false,false,false,false,false,false,false,false,false,false,false,false,false,false,false,false,false,false] rfl rfl (any_of HT_.out (by kernel_rfl)) (fun _ _ _ h => h) (Or.inl ⟨by rfl, ?_⟩) ?_ ?_
                    rotate_left
                    ·intro w'
                     go_simp
                     with_reducible rfl
                    rotate_left
                    ·simp only [Act.put, Q1,Q2,Q3, i64_w, i32_w]
                     rfl
                    refine pure_ (i := 39) (N := some 154) (v := ?_) (a' := ?_) #[true,true,true,true,true,true,true,true,true,true,true,true,true,true,true,true,true,true,true,true,true,true,true,true,true,true,true,true,true,true,true,true,true,true,true,true,true,true,true,true,false,false,false,false,false,false,false,false,false,false,false,false,false,false,false,false,false,false,false,false,false,false] rfl rfl (any_of HT_.out (by kernel_rfl)) (fun _ _ _ h => h) (Or.inl ⟨by rfl, ?_⟩) ?_ ?_
                    rotate_left
                    ·intro w'
                     go_simp
                     with_reducible rfl
                    rotate_left
                    ·simp only [Act.put, Q1,Q2,Q3, i64_w, i32_w]
                     rfl
                    refine pure_ (i := 40) (N := some 155) (v := ?_) (a' := ?_) #[true,true,true,true,true,true,true,true,true,true,true,true,true,true,true,true,true,true,true,true,true,true,true,true,true,true,true,true,true,true,true,true,true,true,true,true,true,true,true,true,true,false,false,false,false,false,false,false,false,false,false,false,false,false,false,false,false,false,false,false,false,false] rfl rfl (any_of HT_.out (by kernel_rfl)) (fun _ _ _ h => h) (Or.inl ⟨by rfl, ?_⟩) ?_ ?_
                    rotate_left
                    ·intro w'
                     go_simp
                     with_reducible rfl
                    rotate_left
                    ·simp only [Act.put, Q1,Q2,Q3, i64_w, i32_w]
                     rfl
                    refine pure_ (i := 41) (N := some 156) (v := ?_) (a' := ?_) #[true,true,true,true,true,true,true,true,true,true,true,true,true,true,true,true,true,true,true,true,true,true,true,true,true,true,true,true,true,true,true,true,true,true,true,true,true,true,true,true,true,true,false,false,false,false,false,false,false,false,false,false,false,false,false,false,false,false,false,false,false,false] rfl rfl (any_of HT_.out (by kernel_rfl)) (fun _ _ _ h => h) (Or.inl ⟨by rfl, ?_⟩) ?_ ?_
                    rotate_left
                    ·intro w'
                     go_simp
                     with_reducible rfl
                    rotate_left
                    ·simp only [Act.put, Q1,Q2,Q3, i64_w, i32_w]
                     rfl
                    refine pure_ (i := 42) (N := some 157) (v := ?_) (a' := ?_) #[true,true,true,true,true,true,true,true,true,true,true,true,true,true,true,true,true,true,true,true,true,true,true,true,true,true,true,true,true,true,true,true,true,true,true,true,true,true,true,true,true,true,true,false,false,false,false,false,false,false,false,false,false,false,false,false,false,false,false,false,false,false] rfl rfl (any_of HT_.out (by kernel_rfl)) (fun _ _ _ h => h) (Or.inl ⟨by rfl, ?_⟩) ?_ ?_
                    rotate_left
                    ·intro w'
                     go_simp
                     with_reducible rfl
                    rotate_left
                    ·simp only [Act.put, Q1,Q2,Q3, i64_w, i32_w]
                     rfl
                    refine pure_ (i := 43) (N := some 158) (v := ?_) (a' := ?_) #[true,true,true,true,true,true,true,true,true,true,true,true,true,true,true,true,true,true,true,true,true,true,true,true,true,true,true,true,true,true,true,true,true,true,true,true,true,true,true,true,true,true,true,true,false,false,false,false,false,false,false,false,false,false,false,false,false,false,false,false,false,false] rfl rfl (any_of HT_.out (by kernel_rfl)) (fun _ _ _ h => h) (Or.inl ⟨by rfl, ?_⟩) ?_ ?_
                    rotate_left
                    ·intro w'
                     go_simp
                     with_reducible rfl
                    rotate_left
                    ·simp only [Act.put, Q1,Q2,Q3, i64_w, i32_w]
                     rfl
                    refine take_ (i := 44) (N := some 159) (v := ?_) (a' := ?_) #[true,true,true,true,true,true,true,true,true,true,true,true,true,true,true,true,true,true,true,true,true,true,true,true,true,true,true,true,true,true,true,true,true,true,true,true,true,true,true,true,true,true,true,true,true,false,false,false,false,false,false,false,false,false,false,false,false,false,false,false,false,false] rfl rfl (take_ofW HT_.out HW_.out (by kernel_rfl)) (fun _ _ _ h => h) (Or.inl ⟨by rfl, ?_⟩) hHeld ?_ ?_
                    rotate_left
                    ·rintro w' ⟨s0, s1, s2, s3, s4, s5, s6, s7, s8, s9⟩
                     go_simp
                     with_reducible rfl
                    rotate_left
                    ·simp only [Act.put, Q1,Q2,Q3, i64_w, i32_w]
                     rfl
                    refine take_ (i := 46) (N := some 161) (v := ?_) (a' := ?_) #[true,true,true,true,true,true,true,true,true,true,true,true,true,true,true,true,true,true,true,true,true,true,true,true,true,true,true,true,true,true,true,true,true,true,true,true,true,true,true,true,true,true,true,true,true,false,true,false,false,false,false,false,false,false,false,false,false,false,false,false,false,false] rfl rfl (take_ofW HT_.out HW_.out (by kernel_rfl)) (fun _ _ _ h => h) (Or.inl ⟨by rfl, ?_⟩) hHeld ?_ ?_
                    rotate_left
                    ·rintro w' ⟨s0, s1, s2, s3, s4, s5, s6, s7, s8, s9⟩
                     go_simp
                     with_reducible rfl
                    rotate_left
                    ·simp only [Act.put, Q1,Q2,Q3, i64_w, i32_w]
                     rfl
                    refine one_ (i := 45) (N := some 160) #[true,true,true,true,true,true,true,true,true,true,true,true,true,true,true,true,true,true,true,true,true,true,true,true,true,true,true,true,true,true,true,true,true,true,true,true,true,true,true,true,true,true,true,true,true,true,true,false,false,false,false,false,false,false,false,false,false,false,false,false,false,false] rfl rfl (one_of HT_.out (by kernel_rfl)) (by decide) (fun K hK => ?_)
                    refine goes_ Try.func14 (by kernel_rfl) rfl #[.agg #[.slice A0_0 l0_0.length c0_0, .slice A0_1 l0_1.length c0_1]] (by rfl) rfl rfl (by (try simp only [List.map_toArray, List.map_cons, List.map_nil]); first | done | rfl | (simp only [List.length_drop, List.length_take]; rfl)) ?_
                    with_reducible refine (intern_Used.calls _ _ l0_0 _ _ l0_1 t294 _ ?side1 ?side2 ?side3 ?side4 A73.out).mono ?_
                    (case side1 => repeat (first|exact (Kd.C_below HR0_0.out (by repeat (first | (with_reducible first|exact HB.out|apply Q8|apply Q5|apply Q9|refine Q6 ?_ GE233.out|refine Q6 ?_ GE234.out|refine Q6 ?_ GE253.out|refine Q6 ?_ GE262.out|refine Q6 ?_ GE270.out|refine Q6 ?_ GE278.out)|exact HB.out))) | (with_reducible refine Kd.C_alloc ?_ _) | (with_reducible refine Kd.C_drewN ?_ _) | (with_reducible refine Kd.C_drew ?_)))
                    (case side2 => exact HC0_0.out)
                    (case side3 => repeat (first|exact (Kd.C_below HR0_1.out (by repeat (first | (with_reducible first|exact HB.out|apply Q8|apply Q5|apply Q9|refine Q6 ?_ GE233.out|refine Q6 ?_ GE234.out|refine Q6 ?_ GE253.out|refine Q6 ?_ GE262.out|refine Q6 ?_ GE270.out|refine Q6 ?_ GE278.out)|exact HB.out))) | (with_reducible refine Kd.C_alloc ?_ _) | (with_reducible refine Kd.C_drewN ?_ _) | (with_reducible refine Kd.C_drew ?_)))
                    (case side4 => exact HC0_1.out)
                    rintro e w138 ⟨rfl, hb⟩
                    refine ⟨_, rfl, ?_⟩
                    have n0_ := Q4 (Kd.V_below (by (with_reducible repeat (first|apply Kd.V_alloc|apply Kd.V_drewN|apply Kd.V_drew)); exact HO247.out) hb)
                    have n1_ := Q4 (Kd.V_below (by (with_reducible repeat (first|apply Kd.V_alloc|apply Kd.V_drewN|apply Kd.V_drew)); exact HO250.out) hb)
                    have n2_ := Q4 (Kd.V_below (by (with_reducible repeat (first|apply Kd.V_alloc|apply Kd.V_drewN|apply Kd.V_drew)); exact HO256.out) hb)
                    have n3_ := Q4 (Kd.V_below (by (with_reducible repeat (first|apply Kd.V_alloc|apply Kd.V_drewN|apply Kd.V_drew)); exact HO259.out) hb)
                    have n4_ := Q4 (Kd.V_below (by (with_reducible repeat (first|apply Kd.V_alloc|apply Kd.V_drewN|apply Kd.V_drew)); exact HO265.out) hb)
                    have n5_ := Q4 (Kd.V_below (by (with_reducible repeat (first|apply Kd.V_alloc|apply Kd.V_drewN|apply Kd.V_drew)); exact HO268.out) hb)
                    have n6_ := Q4 (Kd.V_below (by (with_reducible repeat (first|apply Kd.V_alloc|apply Kd.V_drewN|apply Kd.V_drew)); exact HO273.out) hb)
                    have n7_ := Q4 (Kd.V_below (by (with_reducible repeat (first|apply Kd.V_alloc|apply Kd.V_drewN|apply Kd.V_drew)); exact HO276.out) hb)
                    have n8_ := Q4 (Kd.R_below (by (with_reducible repeat (first|apply Kd.R_alloc|apply Kd.R_drewN|apply Kd.R_drew)); exact HO281.out) hb)
                    have n9_ := Q4 (Kd.V_below (by (with_reducible repeat (first|apply Kd.V_alloc|apply Kd.V_drewN|apply Kd.V_drew)); exact HO285.out) hb)
                    have n10_ := Q4 (blk_below (g := gb233) (o := .cells #[.slice A0_0 l0_0.length c0_0, .slice A0_1 l0_1.length c0_1] 27 (0, 0)) (by (with_reducible repeat (first|refine Qa ?_ _|refine Qb ?_|refine Q7 ?_ _)); exact BK233.out) hb)
                    have n11_ := Q4 (blk_below (g := gb234) (o := .cells #[.slice A1_0 l1_0.length c1_0, .slice A1_1 l1_1.length c1_1] 27 (0, 0)) (by (with_reducible repeat (first|refine Qa ?_ _|refine Qb ?_|refine Q7 ?_ _)); exact BK234.out) hb)
                    have n12_ := Q4 (blk_below (g := gb253) (o := .cells #[.slice Ao87 t245.length co87, .slice Ao91 t248.length co91] 27 (0, 0)) (by (with_reducible repeat (first|refine Qa ?_ _|refine Qb ?_|refine Q7 ?_ _)); exact BK253.out) hb)
                    have n13_ := Q4 (blk_below (g := gb262) (o := .cells #[.slice Ao96 t254.length co96, .slice Ao101 t257.length co101] 27 (0, 0)) (by (with_reducible repeat (first|refine Qa ?_ _|refine Qb ?_|refine Q7 ?_ _)); exact BK262.out) hb)
                    have n14_ := Q4 (blk_below (g := gb270) (o := .cells #[.slice Ao106 t263.length co106, .slice Ao112 t266.length co112] 27 (0, 0)) (by (with_reducible repeat (first|refine Qa ?_ _|refine Qb ?_|refine Q7 ?_ _)); exact BK270.out) hb)
                    have n15_ := Q4 (blk_below (g := gb278) (o := .cells #[.slice Ao117 t271.length co117, .slice Ao124 t274.length co124] 27 (0, 0)) (by (with_reducible repeat (first|refine Qa ?_ _|refine Qb ?_|refine Q7 ?_ _)); exact BK278.out) hb)
                    have n16_ := Q4 (below_step (by repeat (first | (with_reducible first|exact HB.out|apply Q8|apply Q5|apply Q9|refine Q6 ?_ GE233.out|refine Q6 ?_ GE234.out|refine Q6 ?_ GE253.out|refine Q6 ?_ GE262.out|refine Q6 ?_ GE270.out|refine Q6 ?_ GE278.out)|exact HB.out)) hb)
                    clear HO247
                    clear HO250
                    clear HO256
                    clear HO259
                    clear HO265
                    clear HO268
                    clear HO273
                    clear HO276
                    clear HO281
                    clear HO285
                    clear BK233
                    clear BK234
                    clear BK253
                    clear BK262
                    clear BK270
                    clear BK278
                    clear HB
                    have HO247 := n0_
                    have HO250 := n1_
                    have HO256 := n2_
                    have HO259 := n3_
                    have HO265 := n4_
                    have HO268 := n5_
                    have HO273 := n6_
                    have HO276 := n7_
                    have HO281 := n8_
                    have HO285 := n9_
                    have BK233 := n10_
                    have BK234 := n11_
                    have BK253 := n12_
                    have BK262 := n13_
                    have BK270 := n14_
                    have BK278 := n15_
                    have HB := n16_
                    clear n0_ n1_ n2_ n3_ n4_ n5_ n6_ n7_ n8_ n9_ n10_ n11_ n12_ n13_ n14_ n15_ n16_
                    refine hK.out _ _ ⟨(blk_cell BK253.out 0).trans rfl, (blk_cell BK253.out 1).trans rfl, (blk_cell BK262.out 0).trans rfl, (blk_cell BK262.out 1).trans rfl, (blk_cell BK270.out 0).trans rfl, (blk_cell BK270.out 1).trans rfl, (blk_cell BK278.out 0).trans rfl, (blk_cell BK278.out 1).trans rfl, (blk_cell BK233.out 0).trans rfl, (blk_cell BK233.out 1).trans rfl⟩ (fun hHeld => ?_)
                    clear hK K
                    refine norm_ (a' := ?_) ?_ ?_
                    rotate_left
                    ·show Act.put _ (some 160) _ = _
                     simp only [Act.put, Q1,Q2,Q3, i64_w, i32_w]
                     rfl
                    refine one_ (i := 47) (N := some 162) #[true,true,true,true,true,true,true,true,true,true,true,true,true,true,true,true,true,true,true,true,true,true,true,true,true,true,true,true,true,true,true,true,true,true,true,true,true,true,true,true,true,true,true,true,true,true,true,true,false,false,false,false,false,false,false,false,false,false,false,false,false,false] rfl rfl (one_of HT_.out (by kernel_rfl)) (by decide) (fun K hK => ?_)
                    refine goes_ Try.func24 (by kernel_rfl) rfl #[.agg #[.slice A0_0 l0_0.length c0_0, .slice A0_1 l0_1.length c0_1]] (by rfl) rfl rfl (by (try simp only [List.map_toArray, List.map_cons, List.map_nil]); first | done | rfl | (simp only [List.length_drop, List.length_take]; rfl)) ?_
                    with_reducible refine (curtilageref05_Used.calls kj27 _ _ l0_0 _ _ l0_1 t295 _ ?side1 ?side2 ?side3 ?side4 A74.out).mono ?_
                    (case side1 => repeat (first|exact (Kd.C_below HR0_0.out HB.out) | (with_reducible refine Kd.C_alloc ?_ _) | (with_reducible refine Kd.C_drewN ?_ _) | (with_reducible refine Kd.C_drew ?_)))
                    (case side2 => exact HC0_0.out)
                    (case side3 => repeat (first|exact (Kd.C_below HR0_1.out HB.out) | (with_reducible refine Kd.C_alloc ?_ _) | (with_reducible refine Kd.C_drewN ?_ _) | (with_reducible refine Kd.C_drew ?_)))
                    (case side4 => exact HC0_1.out)
                    rintro e w139 ⟨rfl, hb⟩
                    refine ⟨_, rfl, ?_⟩
                    have n0_ := Q4 (Kd.V_below (by (with_reducible repeat (first|apply Kd.V_alloc|apply Kd.V_drewN|apply Kd.V_drew)); exact HO247.out) hb)
                    have n1_ := Q4 (Kd.V_below (by (with_reducible repeat (first|apply Kd.V_alloc|apply Kd.V_drewN|apply Kd.V_drew)); exact HO250.out) hb)
                    have n2_ := Q4 (Kd.V_below (by (with_reducible repeat (first|apply Kd.V_alloc|apply Kd.V_drewN|apply Kd.V_drew)); exact HO256.out) hb)
                    have n3_ := Q4 (Kd.V_below (by (with_reducible repeat (first|apply Kd.V_alloc|apply Kd.V_drewN|apply Kd.V_drew)); exact HO259.out) hb)
                    have n4_ := Q4 (Kd.V_below (by (with_reducible repeat (first|apply Kd.V_alloc|apply Kd.V_drewN|apply Kd.V_drew)); exact HO265.out) hb)
                    have n5_ := Q4 (Kd.V_below (by (with_reducible repeat (first|apply Kd.V_alloc|apply Kd.V_drewN|apply Kd.V_drew)); exact HO268.out) hb)
                    have n6_ := Q4 (Kd.V_below (by (with_reducible repeat (first|apply Kd.V_alloc|apply Kd.V_drewN|apply Kd.V_drew)); exact HO273.out) hb)
                    have n7_ := Q4 (Kd.V_below (by (with_reducible repeat (first|apply Kd.V_alloc|apply Kd.V_drewN|apply Kd.V_drew)); exact HO276.out) hb)
                    have n8_ := Q4 (Kd.R_below (by (with_reducible repeat (first|apply Kd.R_alloc|apply Kd.R_drewN|apply Kd.R_drew)); exact HO281.out) hb)
                    have n9_ := Q4 (Kd.V_below (by (with_reducible repeat (first|apply Kd.V_alloc|apply Kd.V_drewN|apply Kd.V_drew)); exact HO285.out) hb)
                    have n10_ := Q4 (blk_below (g := gb233) (o := .cells #[.slice A0_0 l0_0.length c0_0, .slice A0_1 l0_1.length c0_1] 27 (0, 0)) (by (with_reducible repeat (first|refine Qa ?_ _|refine Qb ?_|refine Q7 ?_ _)); exact BK233.out) hb)
                    have n11_ := Q4 (blk_below (g := gb234) (o := .cells #[.slice A1_0 l1_0.length c1_0, .slice A1_1 l1_1.length c1_1] 27 (0, 0)) (by (with_reducible repeat (first|refine Qa ?_ _|refine Qb ?_|refine Q7 ?_ _)); exact BK234.out) hb)
                    have n12_ := Q4 (blk_below (g := gb253) (o := .cells #[.slice Ao87 t245.length co87, .slice Ao91 t248.length co91] 27 (0, 0)) (by (with_reducible repeat (first|refine Qa ?_ _|refine Qb ?_|refine Q7 ?_ _)); exact BK253.out) hb)
                    have n13_ := Q4 (blk_below (g := gb262) (o := .cells #[.slice Ao96 t254.length co96, .slice Ao101 t257.length co101] 27 (0, 0)) (by (with_reducible repeat (first|refine Qa ?_ _|refine Qb ?_|refine Q7 ?_ _)); exact BK262.out) hb)
                    have n14_ := Q4 (blk_below (g := gb270) (o := .cells #[.slice Ao106 t263.length co106, .slice Ao112 t266.length co112] 27 (0, 0)) (by (with_reducible repeat (first|refine Qa ?_ _|refine Qb ?_|refine Q7 ?_ _)); exact BK270.out) hb)
                    have n15_ := Q4 (blk_below (g := gb278) (o := .cells #[.slice Ao117 t271.length co117, .slice Ao124 t274.length co124] 27 (0, 0)) (by (with_reducible repeat (first|refine Qa ?_ _|refine Qb ?_|refine Q7 ?_ _)); exact BK278.out) hb)
                    have n16_ := Q4 (below_step (by repeat (first | (with_reducible first|exact HB.out|apply Q8|apply Q5|apply Q9|refine Q6 ?_ GE233.out|refine Q6 ?_ GE234.out|refine Q6 ?_ GE253.out|refine Q6 ?_ GE262.out|refine Q6 ?_ GE270.out|refine Q6 ?_ GE278.out)|exact HB.out)) hb)
                    clear HO247
                    clear HO250
                    clear HO256
                    clear HO259
                    clear HO265
                    clear HO268
                    clear HO273
                    clear HO276
                    clear HO281
                    clear HO285
                    clear BK233
                    clear BK234
                    clear BK253
                    clear BK262
                    clear BK270
                    clear BK278
                    clear HB
                    have HO247 := n0_
                    have HO250 := n1_
                    have HO256 := n2_
                    have HO259 := n3_
                    have HO265 := n4_
                    have HO268 := n5_
                    have HO273 := n6_
                    have HO276 := n7_
                    have HO281 := n8_
                    have HO285 := n9_
                    have BK233 := n10_
                    have BK234 := n11_
                    have BK253 := n12_
                    have BK262 := n13_
                    have BK270 := n14_
                    have BK278 := n15_
                    have HB := n16_
                    clear n0_ n1_ n2_ n3_ n4_ n5_ n6_ n7_ n8_ n9_ n10_ n11_ n12_ n13_ n14_ n15_ n16_
                    refine hK.out _ _ ⟨(blk_cell BK253.out 0).trans rfl, (blk_cell BK253.out 1).trans rfl, (blk_cell BK262.out 0).trans rfl, (blk_cell BK262.out 1).trans rfl, (blk_cell BK270.out 0).trans rfl, (blk_cell BK270.out 1).trans rfl, (blk_cell BK278.out 0).trans rfl, (blk_cell BK278.out 1).trans rfl, (blk_cell BK233.out 0).trans rfl, (blk_cell BK233.out 1).trans rfl⟩ (fun hHeld => ?_)
                    clear hK K
                    refine norm_ (a' := ?_) ?_ ?_
                    rotate_left
                    ·show Act.put _ (some 162) _ = _
                     simp only [Act.put, Q1,Q2,Q3, i64_w, i32_w]
                     rfl
                    refine pure_ (i := 48) (N := some 163) (v := ?_) (a' := ?_) #[true,true,true,true,true,true,true,true,true,true,true,true,true,true,true,true,true,true,true,true,true,true,true,true,true,true,true,true,true,true,true,true,true,true,true,true,true,true,true,true,true,true,true,true,true,true,true,true,true,false,false,false,false,false,false,false,false,false,false,false,false,false] rfl rfl (any_of HT_.out (by kernel_rfl)) (fun _ _ _ h => h) (Or.inl ⟨by rfl, ?_⟩) ?_ ?_
                    rotate_left
                    ·intro w'
                     go_simp
                     with_reducible rfl
                    rotate_left
                    ·simp only [Act.put, Q1,Q2,Q3, i64_w, i32_w]
                     rfl
                    refine pure_ (i := 49) (N := some 164) (v := ?_) (a' := ?_) #[true,true,true,true,true,true,true,true,true,true,true,true,true,true,true,true,true,true,true,true,true,true,true,true,true,true,true,true,true,true,true,true,true,true,true,true,true,true,true,true,true,true,true,true,true,true,true,true,true,true,false,false,false,false,false,false,false,false,false,false,false,false] rfl rfl (any_of HT_.out (by kernel_rfl)) (fun _ _ _ h => h) (Or.inl ⟨by rfl, ?_⟩) ?_ ?_
                    rotate_left
                    ·intro w'
                     go_simp
                     with_reducible rfl
                    rotate_left
                    ·simp only [Act.put, Q1,Q2,Q3, i64_w, i32_w]
                     rfl
                    refine pure_ (i := 50) (N := some 165) (v := ?_) (a' := ?_) #[true,true,true,true,true,true,true,true,true,true,true,true,true,true,true,true,true,true,true,true,true,true,true,true,true,true,true,true,true,true,true,true,true,true,true,true,true,true,true,true,true,true,true,true,true,true,true,true,true,true,true,false,false,false,false,false,false,false,false,false,false,false] rfl rfl (any_of HT_.out (by kernel_rfl)) (fun _ _ _ h => h) (Or.inl ⟨by rfl, ?_⟩) ?_ ?_
                    rotate_left
                    ·intro w'
                     go_simp
                     with_reducible rfl
                    rotate_left
                    ·simp only [Act.put, Q1,Q2,Q3, i64_w, i32_w]
                     rfl
                    refine take_ (i := 51) (N := some 166) (v := ?_) (a' := ?_) #[true,true,true,true,true,true,true,true,true,true,true,true,true,true,true,true,true,true,true,true,true,true,true,true,true,true,true,true,true,true,true,true,true,true,true,true,true,true,true,true,true,true,true,true,true,true,true,true,true,true,true,true,false,false,false,false,false,false,false,false,false,false] rfl rfl (take_ofW HT_.out HW_.out (by kernel_rfl)) (fun _ _ _ h => h) (Or.inl ⟨by rfl, ?_⟩) hHeld ?_ ?_
                    rotate_left
                    ·rintro w' ⟨s0, s1, s2, s3, s4, s5, s6, s7, s8, s9⟩
                     go_simp
                     with_reducible rfl
                    rotate_left
                    ·simp only [Act.put, Q1,Q2,Q3, i64_w, i32_w]
                     rfl
                    refine one_ (i := 52) (N := some 167) #[true,true,true,true,true,true,true,true,true,true,true,true,true,true,true,true,true,true,true,true,true,true,true,true,true,true,true,true,true,true,true,true,true,true,true,true,true,true,true,true,true,true,true,true,true,true,true,true,true,true,true,true,true,false,false,false,false,false,false,false,false,false] rfl rfl (one_of HT_.out (by kernel_rfl)) (by decide) (fun K hK => ?_)
                    refine goes_ Try.func12 (by kernel_rfl) rfl #[.agg #[.slice Ao87 t245.length co87, .slice Ao91 t248.length co91]] (by rfl) rfl rfl (by (try simp only [List.map_toArray, List.map_cons, List.map_nil]); first | done | rfl | (simp only [List.length_drop, List.length_take]; rfl)) ?_
                    with_reducible refine (curtilageref05_Fit.calls kj27 _ _ t245 _ _ t248 true _ ?side1 ?side2 ?side3 ?side4 A76.out).mono ?_
                    (case side1 => repeat (first|exact (Kd.V_reads' HO247.out).2.2 | (with_reducible refine Kd.C_alloc ?_ _) | (with_reducible refine Kd.C_drewN ?_ _) | (with_reducible refine Kd.C_drew ?_)))
                    (case side2 => exact (Kd.V_reads' HO247.out).2.1)
                    (case side3 => repeat (first|exact (Kd.V_reads' HO250.out).2.2 | (with_reducible refine Kd.C_alloc ?_ _) | (with_reducible refine Kd.C_drewN ?_ _) | (with_reducible refine Kd.C_drew ?_)))
                    (case side4 => exact (Kd.V_reads' HO250.out).2.1)
                    rintro e w140 ⟨rfl, hb⟩
                    refine ⟨_, rfl, ?_⟩
                    have n0_ := Q4 (Kd.V_below (by (with_reducible repeat (first|apply Kd.V_alloc|apply Kd.V_drewN|apply Kd.V_drew)); exact HO247.out) hb)
                    have n1_ := Q4 (Kd.V_below (by (with_reducible repeat (first|apply Kd.V_alloc|apply Kd.V_drewN|apply Kd.V_drew)); exact HO250.out) hb)
                    have n2_ := Q4 (Kd.V_below (by (with_reducible repeat (first|apply Kd.V_alloc|apply Kd.V_drewN|apply Kd.V_drew)); exact HO256.out) hb)
                    have n3_ := Q4 (Kd.V_below (by (with_reducible repeat (first|apply Kd.V_alloc|apply Kd.V_drewN|apply Kd.V_drew)); exact HO259.out) hb)
                    have n4_ := Q4 (Kd.V_below (by (with_reducible repeat (first|apply Kd.V_alloc|apply Kd.V_drewN|apply Kd.V_drew)); exact HO265.out) hb)
                    have n5_ := Q4 (Kd.V_below (by (with_reducible repeat (first|apply Kd.V_alloc|apply Kd.V_drewN|apply Kd.V_drew)); exact HO268.out) hb)
                    have n6_ := Q4 (Kd.V_below (by (with_reducible repeat (first|apply Kd.V_alloc|apply Kd.V_drewN|apply Kd.V_drew)); exact HO273.out) hb)
                    have n7_ := Q4 (Kd.V_below (by (with_reducible repeat (first|apply Kd.V_alloc|apply Kd.V_drewN|apply Kd.V_drew)); exact HO276.out) hb)
                    have n8_ := Q4 (Kd.R_below (by (with_reducible repeat (first|apply Kd.R_alloc|apply Kd.R_drewN|apply Kd.R_drew)); exact HO281.out) hb)
                    have n9_ := Q4 (Kd.V_below (by (with_reducible repeat (first|apply Kd.V_alloc|apply Kd.V_drewN|apply Kd.V_drew)); exact HO285.out) hb)
                    have n10_ := Q4 (blk_below (g := gb233) (o := .cells #[.slice A0_0 l0_0.length c0_0, .slice A0_1 l0_1.length c0_1] 27 (0, 0)) (by (with_reducible repeat (first|refine Qa ?_ _|refine Qb ?_|refine Q7 ?_ _)); exact BK233.out) hb)
                    have n11_ := Q4 (blk_below (g := gb234) (o := .cells #[.slice A1_0 l1_0.length c1_0, .slice A1_1 l1_1.length c1_1] 27 (0, 0)) (by (with_reducible repeat (first|refine Qa ?_ _|refine Qb ?_|refine Q7 ?_ _)); exact BK234.out) hb)
                    have n12_ := Q4 (blk_below (g := gb253) (o := .cells #[.slice Ao87 t245.length co87, .slice Ao91 t248.length co91] 27 (0, 0)) (by (with_reducible repeat (first|refine Qa ?_ _|refine Qb ?_|refine Q7 ?_ _)); exact BK253.out) hb)
                    have n13_ := Q4 (blk_below (g := gb262) (o := .cells #[.slice Ao96 t254.length co96, .slice Ao101 t257.length co101] 27 (0, 0)) (by (with_reducible repeat (first|refine Qa ?_ _|refine Qb ?_|refine Q7 ?_ _)); exact BK262.out) hb)
                    have n14_ := Q4 (blk_below (g := gb270) (o := .cells #[.slice Ao106 t263.length co106, .slice Ao112 t266.length co112] 27 (0, 0)) (by (with_reducible repeat (first|refine Qa ?_ _|refine Qb ?_|refine Q7 ?_ _)); exact BK270.out) hb)
                    have n15_ := Q4 (blk_below (g := gb278) (o := .cells #[.slice Ao117 t271.length co117, .slice Ao124 t274.length co124] 27 (0, 0)) (by (with_reducible repeat (first|refine Qa ?_ _|refine Qb ?_|refine Q7 ?_ _)); exact BK278.out) hb)
                    have n16_ := Q4 (below_step (by repeat (first | (with_reducible first|exact HB.out|apply Q8|apply Q5|apply Q9|refine Q6 ?_ GE233.out|refine Q6 ?_ GE234.out|refine Q6 ?_ GE253.out|refine Q6 ?_ GE262.out|refine Q6 ?_ GE270.out|refine Q6 ?_ GE278.out)|exact HB.out)) hb)
                    clear HO247
                    clear HO250
                    clear HO256
                    clear HO259
                    clear HO265
                    clear HO268
                    clear HO273
                    clear HO276
                    clear HO281
                    clear HO285
                    clear BK233
                    clear BK234
                    clear BK253
                    clear BK262
                    clear BK270
                    clear BK278
                    clear HB
                    have HO247 := n0_
                    have HO250 := n1_
                    have HO256 := n2_
                    have HO259 := n3_
                    have HO265 := n4_
                    have HO268 := n5_
                    have HO273 := n6_
                    have HO276 := n7_
                    have HO281 := n8_
                    have HO285 := n9_
                    have BK233 := n10_
                    have BK234 := n11_
                    have BK253 := n12_
                    have BK262 := n13_
                    have BK270 := n14_
                    have BK278 := n15_
                    have HB := n16_
                    clear n0_ n1_ n2_ n3_ n4_ n5_ n6_ n7_ n8_ n9_ n10_ n11_ n12_ n13_ n14_ n15_ n16_
                    refine hK.out _ _ ⟨(blk_cell BK253.out 0).trans rfl, (blk_cell BK253.out 1).trans rfl, (blk_cell BK262.out 0).trans rfl, (blk_cell BK262.out 1).trans rfl, (blk_cell BK270.out 0).trans rfl, (blk_cell BK270.out 1).trans rfl, (blk_cell BK278.out 0).trans rfl, (blk_cell BK278.out 1).trans rfl, (blk_cell BK233.out 0).trans rfl, (blk_cell BK233.out 1).trans rfl⟩ (fun hHeld => ?_)
                    clear hK K
                    refine norm_ (a' := ?_) ?_ ?_
                    rotate_left
                    ·show Act.put _ (some 167) _ = _
                     simp only [Act.put, Q1,Q2,Q3, i64_w, i32_w]
                     rfl
                    refine pure_ (i := 53) (N := some 168) (v := ?_) (a' := ?_) #[true,true,true,true,true,true,true,true,true,true,true,true,true,true,true,true,true,true,true,true,true,true,true,true,true,true,true,true,true,true,true,true,true,true,true,true,true,true,true,true,true,true,true,true,true,true,true,true,true,true,true,true,true,true,false,false,false,false,false,false,false,false] rfl rfl (any_of HT_.out (by kernel_rfl)) (fun _ _ _ h => h) (Or.inl ⟨by rfl, ?_⟩) ?_ ?_
                    rotate_left
                    ·intro w'
                     go_simp
                     with_reducible rfl
                    rotate_left
                    ·simp only [Act.put, Q1,Q2,Q3, i64_w, i32_w]
                     rfl
                    refine pure_ (i := 54) (N := some 169) (v := ?_) (a' := ?_) #[true,true,true,true,true,true,true,true,true,true,true,true,true,true,true,true,true,true,true,true,true,true,true,true,true,true,true,true,true,true,true,true,true,true,true,true,true,true,true,true,true,true,true,true,true,true,true,true,true,true,true,true,true,true,true,false,false,false,false,false,false,false] rfl rfl (any_of HT_.out (by kernel_rfl)) (fun _ _ _ h => h) (Or.inl ⟨by rfl, ?_⟩) ?_ ?_
                    rotate_left
                    ·intro w'
                     go_simp
                     with_reducible rfl
                    rotate_left
                    ·simp only [Act.put, Q1,Q2,Q3, i64_w, i32_w]
                     rfl
                    refine take_ (i := 55) (N := some 170) (v := ?_) (a' := ?_) #[true,true,true,true,true,true,true,true,true,true,true,true,true,true,true,true,true,true,true,true,true,true,true,true,true,true,true,true,true,true,true,true,true,true,true,true,true,true,true,true,true,true,true,true,true,true,true,true,true,true,true,true,true,true,true,true,false,false,false,false,false,false] rfl rfl (take_ofW HT_.out HW_.out (by kernel_rfl)) (fun _ _ _ h => h) (Or.inl ⟨by rfl, ?_⟩) hHeld ?_ ?_
                    rotate_left
                    ·rintro w' ⟨s0, s1, s2, s3, s4, s5, s6, s7, s8, s9⟩
                     go_simp
                     with_reducible rfl
                    rotate_left
                    ·simp only [Act.put, Q1,Q2,Q3, i64_w, i32_w]
                     rfl
                    refine one_ (i := 56) (N := some 171) #[true,true,true,true,true,true,true,true,true,true,true,true,true,true,true,true,true,true,true,true,true,true,true,true,true,true,true,true,true,true,true,true,true,true,true,true,true,true,true,true,true,true,true,true,true,true,true,true,true,true,true,true,true,true,true,true,true,false,false,false,false,false] rfl rfl (one_of HT_.out (by kernel_rfl)) (by decide) (fun K hK => ?_)
                    refine goes_ Try.func12 (by kernel_rfl) rfl #[.agg #[.slice Ao106 t263.length co106, .slice Ao112 t266.length co112]] (by rfl) rfl rfl (by (try simp only [List.map_toArray, List.map_cons, List.map_nil]); first | done | rfl | (simp only [List.length_drop, List.length_take]; rfl)) ?_
                    with_reducible refine (curtilageref05_Fit.calls kj27 _ _ t263 _ _ t266 true _ ?side1 ?side2 ?side3 ?side4 A78.out).mono ?_
                    (case side1 => repeat (first|exact (Kd.V_reads' HO265.out).2.2 | (with_reducible refine Kd.C_alloc ?_ _) | (with_reducible refine Kd.C_drewN ?_ _) | (with_reducible refine Kd.C_drew ?_)))
                    (case side2 => exact (Kd.V_reads' HO265.out).2.1)
                    (case side3 => repeat (first|exact (Kd.V_reads' HO268.out).2.2 | (with_reducible refine Kd.C_alloc ?_ _) | (with_reducible refine Kd.C_drewN ?_ _) | (with_reducible refine Kd.C_drew ?_)))
                    (case side4 => exact (Kd.V_reads' HO268.out).2.1)
                    rintro e w141 ⟨rfl, hb⟩
                    refine ⟨_, rfl, ?_⟩
                    have n0_ := Q4 (Kd.V_below (by (with_reducible repeat (first|apply Kd.V_alloc|apply Kd.V_drewN|apply Kd.V_drew)); exact HO247.out) hb)
                    have n1_ := Q4 (Kd.V_below (by (with_reducible repeat (first|apply Kd.V_alloc|apply Kd.V_drewN|apply Kd.V_drew)); exact HO250.out) hb)
                    have n2_ := Q4 (Kd.V_below (by (with_reducible repeat (first|apply Kd.V_alloc|apply Kd.V_drewN|apply Kd.V_drew)); exact HO256.out) hb)
                    have n3_ := Q4 (Kd.V_below (by (with_reducible repeat (first|apply Kd.V_alloc|apply Kd.V_drewN|apply Kd.V_drew)); exact HO259.out) hb)
                    have n4_ := Q4 (Kd.V_below (by (with_reducible repeat (first|apply Kd.V_alloc|apply Kd.V_drewN|apply Kd.V_drew)); exact HO265.out) hb)
                    have n5_ := Q4 (Kd.V_below (by (with_reducible repeat (first|apply Kd.V_alloc|apply Kd.V_drewN|apply Kd.V_drew)); exact HO268.out) hb)
                    have n6_ := Q4 (Kd.V_below (by (with_reducible repeat (first|apply Kd.V_alloc|apply Kd.V_drewN|apply Kd.V_drew)); exact HO273.out) hb)
                    have n7_ := Q4 (Kd.V_below (by (with_reducible repeat (first|apply Kd.V_alloc|apply Kd.V_drewN|apply Kd.V_drew)); exact HO276.out) hb)
                    have n8_ := Q4 (Kd.R_below (by (with_reducible repeat (first|apply Kd.R_alloc|apply Kd.R_drewN|apply Kd.R_drew)); exact HO281.out) hb)
                    have n9_ := Q4 (Kd.V_below (by (with_reducible repeat (first|apply Kd.V_alloc|apply Kd.V_drewN|apply Kd.V_drew)); exact HO285.out) hb)
                    have n10_ := Q4 (blk_below (g := gb233) (o := .cells #[.slice A0_0 l0_0.length c0_0, .slice A0_1 l0_1.length c0_1] 27 (0, 0)) (by (with_reducible repeat (first|refine Qa ?_ _|refine Qb ?_|refine Q7 ?_ _)); exact BK233.out) hb)
                    have n11_ := Q4 (blk_below (g := gb234) (o := .cells #[.slice A1_0 l1_0.length c1_0, .slice A1_1 l1_1.length c1_1] 27 (0, 0)) (by (with_reducible repeat (first|refine Qa ?_ _|refine Qb ?_|refine Q7 ?_ _)); exact BK234.out) hb)
                    have n12_ := Q4 (blk_below (g := gb253) (o := .cells #[.slice Ao87 t245.length co87, .slice Ao91 t248.length co91] 27 (0, 0)) (by (with_reducible repeat (first|refine Qa ?_ _|refine Qb ?_|refine Q7 ?_ _)); exact BK253.out) hb)
                    have n13_ := Q4 (blk_below (g := gb262) (o := .cells #[.slice Ao96 t254.length co96, .slice Ao101 t257.length co101] 27 (0, 0)) (by (with_reducible repeat (first|refine Qa ?_ _|refine Qb ?_|refine Q7 ?_ _)); exact BK262.out) hb)
                    have n14_ := Q4 (blk_below (g := gb270) (o := .cells #[.slice Ao106 t263.length co106, .slice Ao112 t266.length co112] 27 (0, 0)) (by (with_reducible repeat (first|refine Qa ?_ _|refine Qb ?_|refine Q7 ?_ _)); exact BK270.out) hb)
                    have n15_ := Q4 (blk_below (g := gb278) (o := .cells #[.slice Ao117 t271.length co117, .slice Ao124 t274.length co124] 27 (0, 0)) (by (with_reducible repeat (first|refine Qa ?_ _|refine Qb ?_|refine Q7 ?_ _)); exact BK278.out) hb)
                    have n16_ := Q4 (below_step (by repeat (first | (with_reducible first|exact HB.out|apply Q8|apply Q5|apply Q9|refine Q6 ?_ GE233.out|refine Q6 ?_ GE234.out|refine Q6 ?_ GE253.out|refine Q6 ?_ GE262.out|refine Q6 ?_ GE270.out|refine Q6 ?_ GE278.out)|exact HB.out)) hb)
                    clear HO247
                    clear HO250
                    clear HO256
                    clear HO259
                    clear HO265
                    clear HO268
                    clear HO273
                    clear HO276
                    clear HO281
                    clear HO285
                    clear BK233
                    clear BK234
                    clear BK253
                    clear BK262
                    clear BK270
                    clear BK278
                    clear HB
                    have HO247 := n0_
                    have HO250 := n1_
                    have HO256 := n2_
                    have HO259 := n3_
                    have HO265 := n4_
                    have HO268 := n5_
                    have HO273 := n6_
                    have HO276 := n7_
                    have HO281 := n8_
                    have HO285 := n9_
                    have BK233 := n10_
                    have BK234 := n11_
                    have BK253 := n12_
                    have BK262 := n13_
                    have BK270 := n14_
                    have BK278 := n15_
                    have HB := n16_
                    clear n0_ n1_ n2_ n3_ n4_ n5_ n6_ n7_ n8_ n9_ n10_ n11_ n12_ n13_ n14_ n15_ n16_
                    refine hK.out _ _ ⟨(blk_cell BK253.out 0).trans rfl, (blk_cell BK253.out 1).trans rfl, (blk_cell BK262.out 0).trans rfl, (blk_cell BK262.out 1).trans rfl, (blk_cell BK270.out 0).trans rfl, (blk_cell BK270.out 1).trans rfl, (blk_cell BK278.out 0).trans rfl, (blk_cell BK278.out 1).trans rfl, (blk_cell BK233.out 0).trans rfl, (blk_cell BK233.out 1).trans rfl⟩ (fun hHeld => ?_)
                    clear hK K
                    refine norm_ (a' := ?_) ?_ ?_
                    rotate_left
                    ·show Act.put _ (some 171) _ = _
                     simp only [Act.put, Q1,Q2,Q3, i64_w, i32_w]
                     rfl
                    refine pure_ (i := 57) (N := some 172) (v := ?_) (a' := ?_) #[true,true,true,true,true,true,true,true,true,true,true,true,true,true,true,true,true,true,true,true,true,true,true,true,true,true,true,true,true,true,true,true,true,true,true,true,true,true,true,true,true,true,true,true,true,true,true,true,true,true,true,true,true,true,true,true,true,true,false,false,false,false] rfl rfl (any_of HT_.out (by kernel_rfl)) (fun _ _ _ h => h) (Or.inl ⟨by rfl, ?_⟩) ?_ ?_
                    rotate_left
                    ·intro w'
                     go_simp
                     with_reducible rfl
                    rotate_left
                    ·simp only [Act.put, Q1,Q2,Q3, i64_w, i32_w]
                     rfl
                    refine pure_ (i := 58) (N := some 173) (v := ?_) (a' := ?_) #[true,true,true,true,true,true,true,true,true,true,true,true,true,true,true,true,true,true,true,true,true,true,true,true,true,true,true,true,true,true,true,true,true,true,true,true,true,true,true,true,true,true,true,true,true,true,true,true,true,true,true,true,true,true,true,true,true,true,true,false,false,false] rfl rfl (any_of HT_.out (by kernel_rfl)) (fun _ _ _ h => h) (Or.inl ⟨by rfl, ?_⟩) ?_ ?_
                    rotate_left
                    ·intro w'
                     go_simp
                     with_reducible rfl
                    rotate_left
                    ·simp only [Act.put, Q1,Q2,Q3, i64_w, i32_w]
                     rfl
                    refine one_ (i := 59) (N := some 174) #[true,true,true,true,true,true,true,true,true,true,true,true,true,true,true,true,true,true,true,true,true,true,true,true,true,true,true,true,true,true,true,true,true,true,true,true,true,true,true,true,true,true,true,true,true,true,true,true,true,true,true,true,true,true,true,true,true,true,true,true,false,false] rfl rfl (one_of HT_.out (by kernel_rfl)) (by decide) (fun K hK => ?_)
                    refine goes_ Try.func6 (by kernel_rfl) rfl #[] (by rfl) rfl rfl (by (try simp only [List.map_toArray, List.map_cons, List.map_nil]); first | done | rfl | (simp only [List.length_drop, List.length_take]; rfl)) ?_
                    with_reducible refine (curtilagelaw05_awake.calls kj27  true _ A80.out).mono ?_
                    rintro e w142 ⟨rfl, hb⟩
                    refine ⟨_, rfl, ?_⟩
                    have n0_ := Q4 (Kd.V_below (by (with_reducible repeat (first|apply Kd.V_alloc|apply Kd.V_drewN|apply Kd.V_drew)); exact HO247.out) hb)
                    have n1_ := Q4 (Kd.V_below (by (with_reducible repeat (first|apply Kd.V_alloc|apply Kd.V_drewN|apply Kd.V_drew)); exact HO250.out) hb)
                    have n2_ := Q4 (Kd.V_below (by (with_reducible repeat (first|apply Kd.V_alloc|apply Kd.V_drewN|apply Kd.V_drew)); exact HO256.out) hb)
                    have n3_ := Q4 (Kd.V_below (by (with_reducible repeat (first|apply Kd.V_alloc|apply Kd.V_drewN|apply Kd.V_drew)); exact HO259.out) hb)
                    have n4_ := Q4 (Kd.V_below (by (with_reducible repeat (first|apply Kd.V_alloc|apply Kd.V_drewN|apply Kd.V_drew)); exact HO265.out) hb)
                    have n5_ := Q4 (Kd.V_below (by (with_reducible repeat (first|apply Kd.V_alloc|apply Kd.V_drewN|apply Kd.V_drew)); exact HO268.out) hb)
                    have n6_ := Q4 (Kd.V_below (by (with_reducible repeat (first|apply Kd.V_alloc|apply Kd.V_drewN|apply Kd.V_drew)); exact HO273.out) hb)
                    have n7_ := Q4 (Kd.V_below (by (with_reducible repeat (first|apply Kd.V_alloc|apply Kd.V_drewN|apply Kd.V_drew)); exact HO276.out) hb)
                    have n8_ := Q4 (Kd.R_below (by (with_reducible repeat (first|apply Kd.R_alloc|apply Kd.R_drewN|apply Kd.R_drew)); exact HO281.out) hb)
                    have n9_ := Q4 (Kd.V_below (by (with_reducible repeat (first|apply Kd.V_alloc|apply Kd.V_drewN|apply Kd.V_drew)); exact HO285.out) hb)
                    have n10_ := Q4 (blk_below (g := gb233) (o := .cells #[.slice A0_0 l0_0.length c0_0, .slice A0_1 l0_1.length c0_1] 27 (0, 0)) (by (with_reducible repeat (first|refine Qa ?_ _|refine Qb ?_|refine Q7 ?_ _)); exact BK233.out) hb)
                    have n11_ := Q4 (blk_below (g := gb234) (o := .cells #[.slice A1_0 l1_0.length c1_0, .slice A1_1 l1_1.length c1_1] 27 (0, 0)) (by (with_reducible repeat (first|refine Qa ?_ _|refine Qb ?_|refine Q7 ?_ _)); exact BK234.out) hb)
                    have n12_ := Q4 (blk_below (g := gb253) (o := .cells #[.slice Ao87 t245.length co87, .slice Ao91 t248.length co91] 27 (0, 0)) (by (with_reducible repeat (first|refine Qa ?_ _|refine Qb ?_|refine Q7 ?_ _)); exact BK253.out) hb)
                    have n13_ := Q4 (blk_below (g := gb262) (o := .cells #[.slice Ao96 t254.length co96, .slice Ao101 t257.length co101] 27 (0, 0)) (by (with_reducible repeat (first|refine Qa ?_ _|refine Qb ?_|refine Q7 ?_ _)); exact BK262.out) hb)
                    have n14_ := Q4 (blk_below (g := gb270) (o := .cells #[.slice Ao106 t263.length co106, .slice Ao112 t266.length co112] 27 (0, 0)) (by (with_reducible repeat (first|refine Qa ?_ _|refine Qb ?_|refine Q7 ?_ _)); exact BK270.out) hb)
                    have n15_ := Q4 (blk_below (g := gb278) (o := .cells #[.slice Ao117 t271.length co117, .slice Ao124 t274.length co124] 27 (0, 0)) (by (with_reducible repeat (first|refine Qa ?_ _|refine Qb ?_|refine Q7 ?_ _)); exact BK278.out) hb)
                    have n16_ := Q4 (below_step (by repeat (first | (with_reducible first|exact HB.out|apply Q8|apply Q5|apply Q9|refine Q6 ?_ GE233.out|refine Q6 ?_ GE234.out|refine Q6 ?_ GE253.out|refine Q6 ?_ GE262.out|refine Q6 ?_ GE270.out|refine Q6 ?_ GE278.out)|exact HB.out)) hb)
                    clear HO247
                    clear HO250
                    clear HO256
                    clear HO259
                    clear HO265
                    clear HO268
                    clear HO273
                    clear HO276
                    clear HO281
                    clear HO285
                    clear BK233
                    clear BK234
                    clear BK253
                    clear BK262
                    clear BK270
                    clear BK278
                    clear HB
                    have HO247 := n0_
                    have HO250 := n1_
                    have HO256 := n2_
                    have HO259 := n3_
                    have HO265 := n4_
                    have HO268 := n5_
                    have HO273 := n6_
                    have HO276 := n7_
                    have HO281 := n8_
                    have HO285 := n9_
                    have BK233 := n10_
                    have BK234 := n11_
                    have BK253 := n12_
                    have BK262 := n13_
                    have BK270 := n14_
                    have BK278 := n15_
                    have HB := n16_
                    clear n0_ n1_ n2_ n3_ n4_ n5_ n6_ n7_ n8_ n9_ n10_ n11_ n12_ n13_ n14_ n15_ n16_
                    refine hK.out _ _ ⟨(blk_cell BK253.out 0).trans rfl, (blk_cell BK253.out 1).trans rfl, (blk_cell BK262.out 0).trans rfl, (blk_cell BK262.out 1).trans rfl, (blk_cell BK270.out 0).trans rfl, (blk_cell BK270.out 1).trans rfl, (blk_cell BK278.out 0).trans rfl, (blk_cell BK278.out 1).trans rfl, (blk_cell BK233.out 0).trans rfl, (blk_cell BK233.out 1).trans rfl⟩ (fun hHeld => ?_)
                    clear hK K
                    refine norm_ (a' := ?_) ?_ ?_
                    rotate_left
                    ·show Act.put _ (some 174) _ = _
                     simp only [Act.put, Q1,Q2,Q3, i64_w, i32_w]
                     rfl
                    refine pure_ (i := 60) (N := some 175) (v := ?_) (a' := ?_) #[true,true,true,true,true,true,true,true,true,true,true,true,true,true,true,true,true,true,true,true,true,true,true,true,true,true,true,true,true,true,true,true,true,true,true,true,true,true,true,true,true,true,true,true,true,true,true,true,true,true,true,true,true,true,true,true,true,true,true,true,true,false] rfl rfl (any_of HT_.out (by kernel_rfl)) (fun _ _ _ h => h) (Or.inl ⟨by rfl, ?_⟩) ?_ ?_
                    rotate_left
                    ·intro w'
                     go_simp
                     with_reducible rfl
                    rotate_left
                    ·simp only [Act.put, Q1,Q2,Q3, i64_w, i32_w]
                     rfl
                    refine pure_ (i := 61) (N := some 8) (v := ?_) (a' := ?_) #[true,true,true,true,true,true,true,true,true,true,true,true,true,true,true,true,true,true,true,true,true,true,true,true,true,true,true,true,true,true,true,true,true,true,true,true,true,true,true,true,true,true,true,true,true,true,true,true,true,true,true,true,true,true,true,true,true,true,true,true,true,true] rfl rfl (any_of HT_.out (by kernel_rfl)) (fun _ _ _ h => h) (Or.inl ⟨by rfl, ?_⟩) ?_ ?_
                    rotate_left
                    ·intro w'
                     go_simp
                     with_reducible rfl
                    rotate_left
                    ·simp only [Act.put, Q1,Q2,Q3, i64_w, i32_w]
                     rfl
                    refine done_ (done_of HT_.out (by kernel_rfl)) ?_
                    try go_wp2
                    go_ret
                    exact ⟨by first | rfl | (simp [errW_none, errW_some] <;> rfl) | (simp [*, errW_none, errW_some] <;> rfl), by repeat (first | (with_reducible first|exact HB.out|apply Q8|apply Q5|apply Q9|refine Q6 ?_ GE233.out|refine Q6 ?_ GE234.out|refine Q6 ?_ GE253.out|refine Q6 ?_ GE262.out|refine Q6 ?_ GE270.out|refine Q6 ?_ GE278.out)|exact HB.out)⟩
                   ·replace c79 := Bool.eq_false_iff.mpr c79
                    subst c79
                    have H1 : (some false) = some true := by rw [if_neg (show ¬ (false = true) by decide)] at H; exact H
                    clear H
                    have H := H1
                    clear H1
                    exact absurd H (by first | decide|exact curtilagelaw05_InternDoes.j1_dead _ _ _ _ _)
                  ·replace c77 := Bool.eq_false_iff.mpr c77
                   subst c77
                   have H1 : (some false) = some true := by rw [if_neg (show ¬ (false = true) by decide)] at H; exact H
                   clear H
                   have H := H1
                   clear H1
                   exact absurd H (by first | decide|exact curtilagelaw05_InternDoes.j1_dead _ _ _ _ _)
                 ·rw [if_neg c75] at H
                  have c75b0 : (t294 == t295) = false := beq_eq_false_iff_ne.mpr c75
                  have c75b1 : (t294 != t295) = true := bne_iff_ne.mpr c75
                  exact absurd H (by first | decide|exact curtilagelaw05_InternDoes.j1_dead _ _ _ _ _)
                ·rw [if_neg c72] at H
                 have c72b0 : (t288 == t290) = false := by simpa using c72
                 (try (have c72b1 : decide (t288 = t290) = false := by simpa using c72))
                 (try (have c72b2 : (t288 == t290) = false := by simpa using c72))
                 (try (have c72b3 : ¬ (t288 = t290) := by simpa using c72))
                 clear c72
                 exact absurd H (by first | decide|exact curtilagelaw05_InternDoes.j1_dead _ _ _ _ _)
               ·rw [if_neg c71] at H
                have c71b0 : (t287 == t289) = false := beq_eq_false_iff_ne.mpr c71
                have c71b1 : (t287 != t289) = true := bne_iff_ne.mpr c71
                exact absurd H (by first | decide|exact curtilagelaw05_InternDoes.j1_dead _ _ _ _ _)
              ·rw [if_neg c70] at H
               have c70b0 : (t282 == t286) = false := beq_eq_false_iff_ne.mpr c70
               have c70b1 : (t282 != t286) = true := bne_iff_ne.mpr c70
               exact absurd H (by first | decide|exact curtilagelaw05_InternDoes.j1_dead _ _ _ _ _)
             ·replace c69 := Bool.eq_false_iff.mpr c69
              subst c69
              have H1 : (some false) = some true := by rw [if_neg (show ¬ (false = true) by decide)] at H; exact H
              clear H
              have H := H1
              clear H1
              exact absurd H (by first | decide|exact curtilagelaw05_InternDoes.j1_dead _ _ _ _ _)
            ·rw [if_neg c67] at H
             have c67b0 : (t269 == t277) = false := beq_eq_false_iff_ne.mpr c67
             have c67b1 : (t269 != t277) = true := bne_iff_ne.mpr c67
             exact absurd H (by first | decide|exact curtilagelaw05_InternDoes.j1_dead _ _ _ _ _)
           ·replace c66 := Bool.eq_false_iff.mpr c66
            subst c66
            have H1 : (some false) = some true := by rw [if_neg (show ¬ (false = true) by decide)] at H; exact H
            clear H
            have H := H1
            clear H1
            exact absurd H (by first | decide|exact curtilagelaw05_InternDoes.j1_dead _ _ _ _ _)
          ·rw [if_neg c64] at H
           have c64b0 : (t252 == t261) = false := beq_eq_false_iff_ne.mpr c64
           have c64b1 : (t252 != t261) = true := bne_iff_ne.mpr c64
           exact absurd H (by first | decide|exact curtilagelaw05_InternDoes.j1_dead _ _ _ _ _)
         ·rw [if_neg c63] at H
          have c63b0 : (t251 == t260) = false := beq_eq_false_iff_ne.mpr c63
          have c63b1 : (t251 != t260) = true := bne_iff_ne.mpr c63
          exact absurd H (by first | decide|exact curtilagelaw05_InternDoes.j1_dead _ _ _ _ _)
        ·replace c62 := Bool.eq_false_iff.mpr c62
         subst c62
         have H1 : (some false) = some true := by rw [if_neg (show ¬ (false = true) by decide)] at H; exact H
         clear H
         have H := H1
         clear H1
         exact absurd H (by first | decide|exact curtilagelaw05_InternDoes.j1_dead _ _ _ _ _)
       ·replace c52 := Bool.eq_false_iff.mpr c52
        subst c52
        have H1 : ((curtilagelaw05_awake.f kj27).bind fun t244 => (some t244)) = some true := by rw [if_neg (show ¬ (false = true) by decide)] at H; exact H
        clear H
        have H := H1
        clear H1
        replace H := Option.bind_eq_some_iff.mp H
        obtain ⟨t244, A8230, H⟩ := H
        replace H : (some t244) = some true := H
        have A823 := Q4 A8230
        clear A8230
        obtain rfl := Option.some.inj H
        have hnb824 := NB233_234.out
        have hnc824 := NB234_233.out
        have hcz825_0 : wc.cell? ⟨gb233, 0, none⟩ = some (.slice A0_0 l0_0.length c0_0) := (blk_cell BK233.out 0).trans rfl
        have hcz825_1 : wc.cell? ⟨gb233, 1, none⟩ = some (.slice A0_1 l0_1.length c0_1) := (blk_cell BK233.out 1).trans rfl
        have hfz825_0 := blk_frozen BK233.out 0
        have hfz825_1 := blk_frozen BK233.out 1
        go_wp2_with (first | ((with_reducible refine gate_callee (f := 12) rfl ?_); refine goesL_ (some 62) rfl rfl Try.func12 (by kernel_rfl) rfl #[.agg #[.slice A0_0 l0_0.length c0_0, .slice A0_1 l0_1.length c0_1]] rfl (by (try simp only [List.map_toArray, List.map_cons, List.map_nil]); first | done | rfl | (simp only [List.length_drop, List.length_take]; rfl)) ?_; (with_reducible refine (curtilageref05_Fit.calls kj27 _ _ l0_0 _ _ l0_1 false _ ?side1 ?side2 ?side3 ?side4 A51.out).mono ?_); (case side1 => repeat (first|exact (Kd.C_below HR0_0.out HB.out) | (with_reducible refine Kd.C_alloc ?_ _) | (with_reducible refine Kd.C_drewN ?_ _) | (with_reducible refine Kd.C_drew ?_))); (case side2 => exact HC0_0.out); (case side3 => repeat (first|exact (Kd.C_below HR0_1.out HB.out) | (with_reducible refine Kd.C_alloc ?_ _) | (with_reducible refine Kd.C_drewN ?_ _) | (with_reducible refine Kd.C_drew ?_))); (case side4 => exact HC0_1.out); rintro e w826 ⟨rfl, hb⟩; refine ⟨_, rfl, ?_⟩; have n0_ := Q4 (blk_below (g := gb233) (o := .cells #[.slice A0_0 l0_0.length c0_0, .slice A0_1 l0_1.length c0_1] 27 (0, 0)) (by (with_reducible repeat (first|refine Qa ?_ _|refine Qb ?_|refine Q7 ?_ _)); exact BK233.out) hb); have n1_ := Q4 (blk_below (g := gb234) (o := .cells #[.slice A1_0 l1_0.length c1_0, .slice A1_1 l1_1.length c1_1] 27 (0, 0)) (by (with_reducible repeat (first|refine Qa ?_ _|refine Qb ?_|refine Q7 ?_ _)); exact BK234.out) hb); have n2_ := Q4 (below_step (by repeat (first | (with_reducible first|exact HB.out|apply Q8|apply Q5|apply Q9|refine Q6 ?_ GE233.out|refine Q6 ?_ GE234.out)|exact HB.out)) hb); clear BK233; clear BK234; clear HB; have BK233 := n0_; have BK234 := n1_; have HB := n2_; clear n0_ n1_ n2_; (try clear hb); (try clear hb2); (try clear hk); (try clear hi)) | ((with_reducible refine gate_callee (f := 6) rfl ?_); refine goesL_ (some 64) rfl rfl Try.func6 (by kernel_rfl) rfl #[] rfl (by (try simp only [List.map_toArray, List.map_cons, List.map_nil]); first | done | rfl | (simp only [List.length_drop, List.length_take]; rfl)) ?_; (with_reducible refine (curtilagelaw05_awake.calls kj27  true _ A823.out).mono ?_); rintro e w827 ⟨rfl, hb⟩; refine ⟨_, rfl, ?_⟩; have n0_ := Q4 (blk_below (g := gb233) (o := .cells #[.slice A0_0 l0_0.length c0_0, .slice A0_1 l0_1.length c0_1] 27 (0, 0)) (by (with_reducible repeat (first|refine Qa ?_ _|refine Qb ?_|refine Q7 ?_ _)); exact BK233.out) hb); have n1_ := Q4 (blk_below (g := gb234) (o := .cells #[.slice A1_0 l1_0.length c1_0, .slice A1_1 l1_1.length c1_1] 27 (0, 0)) (by (with_reducible repeat (first|refine Qa ?_ _|refine Qb ?_|refine Q7 ?_ _)); exact BK234.out) hb); have n2_ := Q4 (below_step (by repeat (first | (with_reducible first|exact HB.out|apply Q8|apply Q5|apply Q9|refine Q6 ?_ GE233.out|refine Q6 ?_ GE234.out)|exact HB.out)) hb); clear BK233; clear BK234; clear HB; have BK233 := n0_; have BK234 := n1_; have HB := n2_; clear n0_ n1_ n2_; (try clear hb); (try clear hb2); (try clear hk); (try clear hi)))
        go_ret
        exact ⟨by first | rfl | (simp [errW_none, errW_some] <;> rfl) | (simp [*, errW_none, errW_some] <;> rfl), by repeat (first | (with_reducible first|exact HB.out|apply Q8|apply Q5|apply Q9|refine Q6 ?_ GE233.out|refine Q6 ?_ GE234.out)|exact HB.out)⟩

end Go.Proofs.Ytfoagjdcgipcaaa.X
