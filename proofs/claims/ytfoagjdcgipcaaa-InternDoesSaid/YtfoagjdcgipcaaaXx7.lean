/- Walks of Go functions: each proves that the call answers what the Lean function of its name computes, wherever that is told; written by a program of this work out of the translation. -/
import Derived.Test.YtfoagjdcgipcaaaXx0
import Derived.Test.YtfoagjdcgipcaaaXx4
import Derived.Test.YtfoagjdcgipcaaaJa
import Derived.Test.YtfoagjdcgipcaaaJt
import Derived.Test.YtfoagjdcgipcaaaJu
import Derived.Test.YtfoagjdcgipcaaaJv
import Derived.Test.YtfoagjdcgipcaaaJw
import Derived.Test.YtfoagjdcgipcaaaJx
import Derived.Test.YtfoagjdcgipcaaaJq
import Derived.Test.YtfoagjdcgipcaaaJr
import Derived.Test.YtfoagjdcgipcaaaJy
import Derived.Test.YtfoagjdcgipcaaaKa
import Derived.Test.YtfoagjdcgipcaaaKb
import Derived.Test.YtfoagjdcgipcaaaKc
namespace Go.Proofs.Ytfoagjdcgipcaaa.X
open Go.RowKit Go.Proofs.YtfoagjdcgipcaaaW.PrintWords Go.Proofs.YtfoagjdcgipcaaaW.PrintLast

set_option linter.unusedVariables false
set_option linter.unusedSimpArgs false

/-! ### curtilagelaw05_few: function 11 -/
mutual
def curtilagelaw05_few.j0 : Nat → Bool → List (List (S57)) → List Int → Option (Bool)
 | 0, _, _, _ => none
 | k + 1, x14, x195000, x195001 => if x14 = true then (some false) else (curtilagelaw05_few.l0 k x195000 (x195000.length : Int) 0)
def curtilagelaw05_few.l0 : Nat → List (List (S57)) → Int → Int → Option (Bool)
 | 0, _, _, _ => none
 | k + 1, x16, x17, x18 => if x18 < x17 then (if 0 ≤ x18 then (if x18 < (x16.length : Int) then (if ((rd_L3 x16 x18).length : Int) > 20 then (some false) else (curtilagelaw05_few.l0 k x16 x17 (wrap64 (x18 + 1)))) else (none)) else (none)) else (some true)
end
def curtilagelaw05_few.f (k : Nat) (l0_0 : List (List (S57))) (l0_1 : List Int) : Option (Bool) := if (l0_0.length : Int) > 70 then (curtilagelaw05_few.j0 k true l0_0 l0_1) else (curtilagelaw05_few.j0 k (decide ((l0_1.length : Int) > 70)) l0_0 l0_1)
set_option maxHeartbeats 8000000 in
set_option maxRecDepth 100000 in
theorem curtilagelaw05_few.calls (k : Nat) (A0_0 : Option Addr) (c0_0 : Nat) (l0_0 : List (List (S57))) (A0_1 : Option Addr) (c0_1 : Nat) (l0_1 : List Int) (r : Bool) (w : World) (hr0_0 : Kd.C (Kd.slice 57 k57) w A0_0 l0_0.length l0_0) (hc0_0 : l0_0.length ≤ c0_0) (hr0_1 : Kd.C (Kd.int .i64) w A0_1 l0_1.length l0_1) (hc0_1 : l0_1.length ≤ c0_1) (h : curtilagelaw05_few.f k l0_0 l0_1 = some r) :
  Calls Try.prog 11 #[.agg #[.slice A0_0 l0_0.length c0_0, .slice A0_1 l0_1.length c0_1]] w fun e w' => e = .returned (.bool r) ∧ Below w.heap.size w w' := by
 have hu27 := Try.underlying27
 have HR0_0 := Q4 hr0_0
 have HC0_0 := Q4 hc0_0
 clear hr0_0 hc0_0
 have HR0_1 := Q4 hr0_1
 have HC0_1 := Q4 hc0_1
 clear hr0_1 hc0_1
 have HB := Q4 (Below.refl w.heap.size w)
 have H : (if (l0_0.length : Int) > 70 then (curtilagelaw05_few.j0 k true l0_0 l0_1) else (curtilagelaw05_few.j0 k (decide ((l0_1.length : Int) > 70)) l0_0 l0_1)) = some r := h
 clear h
 have HC2 := Q4 H
 clear H
 go_enter Try.func11, Try.ntmps11
 go_upto_region 1 with (first|((with_reducible refine gate_dst (N := 1) rfl ?_); (try (refine gate_guard (by rfl) ?_; dsimp only)); refine box_event ?hg (N := 1) ?hd (cs := #[.slice A0_0 l0_0.length c0_0, .slice A0_1 l0_1.length c0_1]) (t := 27) ?hr ?_; (case hd => rfl); (case hg => rfl); (case hr => first|(go_simp; done)|(go_simp; rfl)); intro gb194 hg w3 hbox hb; have n0_ := Q4 (below_step (by repeat (first|(with_reducible first|exact HB.out|apply Q8|apply Q5|apply Q9)|exact HB.out)) hb); have n1_ := Q4 (hbox); have n2_ := Q4 ((by rw [hg]; exact (below_size (by repeat (first|(with_reducible first|exact HB.out|apply Q8|apply Q5|apply Q9)|exact HB.out))) : w.heap.size ≤ gb194)); have n3_ := Q4 ((by rw [hg]; exact (below_size (by repeat (first|(with_reducible first|exact HB.out|apply Q8|apply Q5|apply Q9)|exact HB.out))) : w.heap.size ≤ gb194)); clear HB; have HB := n0_; have BK194 := n1_; have GW194 := n2_; have GE194 := n3_; clear n0_ n1_ n2_ n3_; clear hb hbox hg))
 (try simp only [Act.put, Q1,Q2,Q3])
 go_cut [14] (fun v14 wc => ∃ (kq : Nat) (x14_1 : Bool), v14 = .bool x14_1 ∧ Aside0 (curtilagelaw05_few.j0 kq x14_1 l0_0 l0_1 = some r) ∧ Aside0 (kq ≤ k) ∧ Aside0 (wc.heap[gb194]? = some (.cells #[(.slice A0_0 l0_0.length c0_0), (.slice A0_1 l0_1.length c0_1)] 27 (0, 0))) ∧ Aside0 (Below w.heap.size w wc))
 case first =>
  have H := HC2.out
  clear HC2
  by_cases c4 : (l0_0.length : Int) > 70
  ·rw [if_pos c4] at H
   have c4b0 : decide (70 < (l0_0.length : Int)) = true := decide_eq_true c4
   have c4b1 : decide (70 < l0_0.length) = true := decide_eq_true (by omega)
   clear c4
   (first | rw [c4b0]|(simp only [i64_w, i32_w]; rw [c4b0])|skip)
   have H' := Q4 H
   clear H
   have hcz5_0 : w3.cell? ⟨gb194, 0, none⟩ = some (.slice A0_0 l0_0.length c0_0) := (blk_cell BK194.out 0).trans rfl
   have hcz5_1 : w3.cell? ⟨gb194, 1, none⟩ = some (.slice A0_1 l0_1.length c0_1) := (blk_cell BK194.out 1).trans rfl
   have hfz5_0 := blk_frozen BK194.out 0
   have hfz5_1 := blk_frozen BK194.out 1
   go_wp2
   go_meet
   case rel => exact ⟨_, (true), (by first|rfl|(simp; done)|(simp [*]; done)), H', ⟨by first|omega|exact Nat.le_refl _⟩, ⟨by (with_reducible repeat (first|refine Qa ?_ _|refine Qb ?_|refine Q7 ?_ _)); exact BK194.out⟩, ⟨by repeat (first|(with_reducible first|exact HB.out|apply Q8|apply Q5|apply Q9|refine Q6 ?_ GE194.out)|exact HB.out)⟩⟩
  ·rw [if_neg c4] at H
   have c4b0 : decide (70 < (l0_0.length : Int)) = false := decide_eq_false c4
   have c4b1 : decide (70 < l0_0.length) = false := decide_eq_false (by omega)
   clear c4
   (first | rw [c4b0]|(simp only [i64_w, i32_w]; rw [c4b0])|skip)
   have H' := Q4 H
   clear H
   have hcz6_0 : w3.cell? ⟨gb194, 0, none⟩ = some (.slice A0_0 l0_0.length c0_0) := (blk_cell BK194.out 0).trans rfl
   have hcz6_1 : w3.cell? ⟨gb194, 1, none⟩ = some (.slice A0_1 l0_1.length c0_1) := (blk_cell BK194.out 1).trans rfl
   have hfz6_0 := blk_frozen BK194.out 0
   have hfz6_1 := blk_frozen BK194.out 1
   go_wp2
   go_meet
   case rel => exact ⟨_, (decide ((l0_1.length : Int) > 70)), (by first|rfl|(simp; done)|(simp [*]; done)), H', ⟨by first|omega|exact Nat.le_refl _⟩, ⟨by (with_reducible repeat (first|refine Qa ?_ _|refine Qb ?_|refine Q7 ?_ _)); exact BK194.out⟩, ⟨by repeat (first|(with_reducible first|exact HB.out|apply Q8|apply Q5|apply Q9|refine Q6 ?_ GE194.out)|exact HB.out)⟩⟩
 case rest =>
  clear HC2
  (try clear c1);(try clear p2);(try clear c4);(try clear c4b0);(try clear c4b1);(try clear hcz5_0);(try clear hcz5_1);(try clear hcz6_0);(try clear hcz6_1);(try clear hfz5_0);(try clear hfz5_1);(try clear hfz6_0);(try clear hfz6_1)
  obtain ⟨kq, x14_1, rfl, HA, HJ1, BK194, HB⟩ := hcut
  cases kq with
  | zero => exact absurd HA.out (by simp [curtilagelaw05_few.j0])
  | succ kj1 =>
   have H := HA.out
   clear HA
   simp only [curtilagelaw05_few.j0] at H
   by_cases c7 : x14_1 = true
   ·subst c7
    have H1 : (some false) = some r := by rw [if_pos rfl] at H; exact H
    clear H
    have H := H1
    clear H1
    obtain rfl := Option.some.inj H
    go_wp2
    go_ret
    exact ⟨by first|rfl|(simp [errW_none, errW_some] <;> rfl)|(simp [*, errW_none, errW_some] <;> rfl), by repeat (first|(with_reducible first|exact HB.out|apply Q8|apply Q5|apply Q9|refine Q6 ?_ GE194.out)|exact HB.out)⟩
   ·replace c7 := Bool.eq_false_iff.mpr c7
    subst c7
    have H1 : (curtilagelaw05_few.l0 kj1 l0_0 (l0_0.length : Int) 0) = some r := by rw [if_neg (show ¬ (false = true) by decide)] at H; exact H
    clear H
    have H := H1
    clear H1
    have H' := Q4 H
    clear H
    have hcz8_0 : wc.cell? ⟨gb194, 0, none⟩ = some (.slice A0_0 l0_0.length c0_0) := (blk_cell BK194.out 0).trans rfl
    have hcz8_1 : wc.cell? ⟨gb194, 1, none⟩ = some (.slice A0_1 l0_1.length c0_1) := (blk_cell BK194.out 1).trans rfl
    have hfz8_0 := blk_frozen BK194.out 0
    have hfz8_1 := blk_frozen BK194.out 1
    go_wp2
    go_loopg [18] kj1 (fun kq v18 w' => ∃ (x18_2 : Int), v18 = .int .i64 x18_2 ∧ Aside0 (curtilagelaw05_few.l0 kq l0_0 (l0_0.length : Int) x18_2 = some r) ∧ Aside0 (kq ≤ kj1) ∧ Aside0 (w'.heap[gb194]? = some (.cells #[(.slice A0_0 l0_0.length c0_0), (.slice A0_1 l0_1.length c0_1)] 27 (0, 0))) ∧ Aside0 (Below w.heap.size w w'))
    case atStart => exact ⟨(0), (by first|rfl|(simp; done)|(simp [*]; done)), H', ⟨Nat.le_refl _⟩, ⟨by (with_reducible repeat (first|refine Qa ?_ _|refine Qb ?_|refine Q7 ?_ _)); exact BK194.out⟩, ⟨by repeat (first|(with_reducible first|exact HB.out|apply Q8|apply Q5|apply Q9|refine Q6 ?_ GE194.out)|exact HB.out)⟩⟩
    case round =>
     clear H'
     (try clear c1);(try clear p2);(try clear c4);(try clear c4b0);(try clear c4b1);(try clear c7);(try clear hcz5_0);(try clear hcz5_1);(try clear hcz6_0);(try clear hcz6_1);(try clear hcz8_0);(try clear hcz8_1);(try clear hfz5_0);(try clear hfz5_1);(try clear hfz6_0);(try clear hfz6_1);(try clear hfz8_0);(try clear hfz8_1);(try clear p2)
     obtain ⟨x18_2, rfl, HA, HK2, BK194, HB⟩ := hrel
     cases gk with
     | zero => exact absurd HA.out (by simp [curtilagelaw05_few.l0])
     | succ k2 =>
      have H := HA.out
      clear HA
      simp only [curtilagelaw05_few.l0] at H
      by_cases c9 : x18_2 < (l0_0.length : Int)
      ·rw [if_pos c9] at H
       have c9b0 : decide (x18_2 < (l0_0.length : Int)) = true := decide_eq_true c9
       clear c9
       by_cases c10 : 0 ≤ x18_2
       ·rw [if_pos c10] at H
        have c10b0 : decide (0 ≤ x18_2) = true := decide_eq_true c10
        clear c10
        by_cases c11 : x18_2 < (l0_0.length : Int)
        ·rw [if_pos c11] at H
         have c11b0 : decide (x18_2 < (l0_0.length : Int)) = true := decide_eq_true c11
         clear c11
         by_cases c12 : ((rd_L3 l0_0 x18_2).length : Int) > 20
         ·rw [if_pos c12] at H
          have c12b0 : decide (20 < ((rd_L3 l0_0 x18_2).length : Int)) = true := decide_eq_true c12
          have c12b1 : decide (20 < (rd_L3 l0_0 x18_2).length) = true := decide_eq_true (by omega)
          clear c12
          obtain rfl := Option.some.inj H
          have p195 : 0 ≤ (x18_2 : Int) := Qc (by first|(with_reducible assumption)|assumption)
          have q195 : x18_2 < (l0_0.length : Int) := Qc (by first|(with_reducible assumption)|assumption)
          obtain ⟨ad195, A195_0, c195_0, e195, hx195_0, hl195_0, hi195_0⟩ := at_L3 HR0_0.out x18_2 p195 q195
          cases e195
          replace hx195_0 := (HB.out.cell (World.block_lt_of_cell? w _ hx195_0)).trans hx195_0
          have HR195_0 := Q4 hi195_0
          have HC195_0 := Q4 hl195_0
          clear hi195_0 hl195_0
          replace p195 := eq_true p195
          replace q195 := eq_true q195
          go_wp2
          go_ret
          exact ⟨by first|rfl|(simp [errW_none, errW_some] <;> rfl)|(simp [*, errW_none, errW_some] <;> rfl), by repeat (first|(with_reducible first|exact HB.out|apply Q8|apply Q5|apply Q9|refine Q6 ?_ GE194.out)|exact HB.out)⟩
         ·rw [if_neg c12] at H
          have c12b0 : decide (20 < ((rd_L3 l0_0 x18_2).length : Int)) = false := decide_eq_false c12
          have c12b1 : decide (20 < (rd_L3 l0_0 x18_2).length) = false := decide_eq_false (by omega)
          clear c12
          have H' := Q4 H
          clear H
          have p195 : 0 ≤ (x18_2 : Int) := Qc (by first|(with_reducible assumption)|assumption)
          have q195 : x18_2 < (l0_0.length : Int) := Qc (by first|(with_reducible assumption)|assumption)
          obtain ⟨ad195, A195_0, c195_0, e195, hx195_0, hl195_0, hi195_0⟩ := at_L3 HR0_0.out x18_2 p195 q195
          cases e195
          replace hx195_0 := (HB.out.cell (World.block_lt_of_cell? w _ hx195_0)).trans hx195_0
          have HR195_0 := Q4 hi195_0
          have HC195_0 := Q4 hl195_0
          clear hi195_0 hl195_0
          replace p195 := eq_true p195
          replace q195 := eq_true q195
          go_wp2
          go_roundg k2
          case measure => have := HJ1.out; have := HK2.out; omega
          case rel => exact ⟨(wrap64 (x18_2 + 1)), (by first|rfl|(simp; done)|(simp [*]; done)), H', ⟨by have := HJ1.out; have := HK2.out; omega⟩, ⟨by (with_reducible repeat (first|refine Qa ?_ _|refine Qb ?_|refine Q7 ?_ _)); exact BK194.out⟩, ⟨by repeat (first|(with_reducible first|exact HB.out|apply Q8|apply Q5|apply Q9|refine Q6 ?_ GE194.out)|exact HB.out)⟩⟩
        ·rw [if_neg c11] at H
         exact absurd H (by simp)
       ·rw [if_neg c10] at H
        exact absurd H (by simp)
      ·rw [if_neg c9] at H
       have c9b0 : decide (x18_2 < (l0_0.length : Int)) = false := decide_eq_false c9
       clear c9
       obtain rfl := Option.some.inj H
       go_wp2
       go_ret
       exact ⟨by first|rfl|(simp [errW_none, errW_some] <;> rfl)|(simp [*, errW_none, errW_some] <;> rfl), by repeat (first|(with_reducible first|exact HB.out|apply Q8|apply Q5|apply Q9|refine Q6 ?_ GE194.out)|exact HB.out)⟩

/-! ### curtilageref05_Find: function 22 -/
mutual
def curtilageref05_Find.l0 : Nat → List (S57) → Int → List (List (S57)) → List Int → Option (Int × Bool)
 | 0, _, _, _, _ => none
 | k + 1, x1, x6, x197000, x197001 => if x6 < (x197000.length : Int) then (curtilageref05_Find.j1 k x1 x6 (decide (x6 < (x197001.length : Int))) x197000 x197001) else (curtilageref05_Find.j1 k x1 x6 false x197000 x197001)
def curtilageref05_Find.j1 : Nat → List (S57) → Int → Bool → List (List (S57)) → List Int → Option (Int × Bool)
 | 0, _, _, _, _, _ => none
 | k + 1, x1, x6, x18, x197000, x197001 => if x18 = true then (if 0 ≤ x6 then (if x6 < (x197001.length : Int) then (if (rd x197001 x6) = 0 then (curtilageref05_Find.l0 k x1 (wrap64 (x6 + 1)) x197000 x197001) else (if x6 < (x197000.length : Int) then ((curtilageref02_Same.f k (rd_L3 x197000 x6) x1).bind fun t199 => (if t199 = true then (some (x6, true)) else (curtilageref05_Find.l0 k x1 (wrap64 (x6 + 1)) x197000 x197001))) else (none))) else (none)) else (none)) else (some (0, false))
end
def curtilageref05_Find.f (k : Nat) (l0_0 : List (List (S57))) (l0_1 : List Int) (l1 : List (S57)) : Option (Int × Bool) := curtilageref05_Find.l0 k l1 0 l0_0 l0_1
set_option maxHeartbeats 8000000 in
set_option maxRecDepth 100000 in
theorem curtilageref05_Find.calls (k : Nat) (A0_0 : Option Addr) (c0_0 : Nat) (l0_0 : List (List (S57))) (A0_1 : Option Addr) (c0_1 : Nat) (l0_1 : List Int) (A1 : Option Addr) (c1 : Nat) (l1 : List (S57)) (r1 : Int) (r2 : Bool) (w : World) (hr0_0 : Kd.C (Kd.slice 57 k57) w A0_0 l0_0.length l0_0) (hc0_0 : l0_0.length ≤ c0_0) (hr0_1 : Kd.C (Kd.int .i64) w A0_1 l0_1.length l0_1) (hc0_1 : l0_1.length ≤ c0_1) (hr1 : Kd.C k57 w A1 l1.length l1) (hc1 : l1.length ≤ c1) (h : curtilageref05_Find.f k l0_0 l0_1 l1 = some (r1, r2)) :
  Calls Try.prog 22 #[.agg #[.slice A0_0 l0_0.length c0_0, .slice A0_1 l0_1.length c0_1], .slice A1 l1.length c1] w fun e w' => e = .returned (.tuple #[.int .i64 r1, .bool r2]) ∧ Below w.heap.size w w' := by
 have hu27 := Try.underlying27
 have HR0_0 := Q4 hr0_0
 have HC0_0 := Q4 hc0_0
 clear hr0_0 hc0_0
 have HR0_1 := Q4 hr0_1
 have HC0_1 := Q4 hc0_1
 clear hr0_1 hc0_1
 have HR1 := Q4 hr1
 have HC1 := Q4 hc1
 clear hr1 hc1
 have HB := Q4 (Below.refl w.heap.size w)
 have H : (curtilageref05_Find.l0 k l1 0 l0_0 l0_1) = some (r1, r2) := h
 clear h
 have H' := Q4 H
 clear H
 go_enter Try.func22, Try.ntmps22
 go_wp2_with (first|((with_reducible refine gate_dst (N := 2) rfl ?_); (try (refine gate_guard (by rfl) ?_; dsimp only)); refine box_event ?hg (N := 2) ?hd (cs := #[.slice A0_0 l0_0.length c0_0, .slice A0_1 l0_1.length c0_1]) (t := 27) ?hr ?_; (case hd => rfl); (case hg => rfl); (case hr => first|(go_simp; done)|(go_simp; rfl)); intro gb196 hg w3 hbox hb; have n0_ := Q4 (below_step (by repeat (first|(with_reducible first|exact HB.out|apply Q8|apply Q5|apply Q9)|exact HB.out)) hb); have n1_ := Q4 (hbox); have n2_ := Q4 ((by rw [hg]; exact (below_size (by repeat (first|(with_reducible first|exact HB.out|apply Q8|apply Q5|apply Q9)|exact HB.out))) : w.heap.size ≤ gb196)); have n3_ := Q4 ((by rw [hg]; exact (below_size (by repeat (first|(with_reducible first|exact HB.out|apply Q8|apply Q5|apply Q9)|exact HB.out))) : w.heap.size ≤ gb196)); clear HB; have HB := n0_; have BK196 := n1_; have GW196 := n2_; have GE196 := n3_; clear n0_ n1_ n2_ n3_; clear hb hbox hg))
 go_loopg [6] k (fun kq v6 w' => ∃ (x6_1 : Int), v6 = .int .i64 x6_1 ∧ Aside0 (curtilageref05_Find.l0 kq l1 x6_1 l0_0 l0_1 = some (r1, r2)) ∧ Aside0 (kq ≤ k) ∧ Aside0 (w'.heap[gb196]? = some (.cells #[(.slice A0_0 l0_0.length c0_0), (.slice A0_1 l0_1.length c0_1)] 27 (0, 0))) ∧ Aside0 (Below w.heap.size w w'))
 case atStart => exact ⟨(0), (by first|rfl|(simp; done)|(simp [*]; done)), H', ⟨Nat.le_refl _⟩, ⟨by (with_reducible repeat (first|refine Qa ?_ _|refine Qb ?_|refine Q7 ?_ _)); exact BK196.out⟩, ⟨by repeat (first|(with_reducible first|exact HB.out|apply Q8|apply Q5|apply Q9|refine Q6 ?_ GE196.out)|exact HB.out)⟩⟩
 case round =>
  clear H'
  (try clear c1);(try clear c2);(try clear p2)
  obtain ⟨x6_1, rfl, HA, HK1, BK196, HB⟩ := hrel
  cases gk with
  | zero => exact absurd HA.out (by simp [curtilageref05_Find.l0])
  | succ k1 =>
   have H := HA.out
   clear HA
   simp only [curtilageref05_Find.l0] at H
   have HC4 := Q4 H
   clear H
   go_upto_region 2 with (fail)
   go_cut [18] (fun v18 wc => ∃ (kq : Nat) (x18_3 : Bool), v18 = .bool x18_3 ∧ Aside0 (curtilageref05_Find.j1 kq l1 x6_1 x18_3 l0_0 l0_1 = some (r1, r2)) ∧ Aside0 (kq ≤ k1) ∧ Aside0 (wc.heap[gb196]? = some (.cells #[(.slice A0_0 l0_0.length c0_0), (.slice A0_1 l0_1.length c0_1)] 27 (0, 0))) ∧ Aside0 (Below w.heap.size w wc))
   case first =>
    have H := HC4.out
    clear HC4
    by_cases c5 : x6_1 < (l0_0.length : Int)
    ·rw [if_pos c5] at H
     have c5b0 : decide (x6_1 < (l0_0.length : Int)) = true := decide_eq_true c5
     clear c5
     (first | rw [c5b0]|(simp only [i64_w, i32_w]; rw [c5b0])|skip)
     have H' := Q4 H
     clear H
     have hcz6_0 : wr.cell? ⟨gb196, 0, none⟩ = some (.slice A0_0 l0_0.length c0_0) := (blk_cell BK196.out 0).trans rfl
     have hcz6_1 : wr.cell? ⟨gb196, 1, none⟩ = some (.slice A0_1 l0_1.length c0_1) := (blk_cell BK196.out 1).trans rfl
     have hfz6_0 := blk_frozen BK196.out 0
     have hfz6_1 := blk_frozen BK196.out 1
     go_wp2
     go_meet
     case rel => exact ⟨_, (decide (x6_1 < (l0_1.length : Int))), (by first|rfl|(simp; done)|(simp [*]; done)), H', ⟨by have := HK1.out; first|omega|exact Nat.le_refl _⟩, ⟨by (with_reducible repeat (first|refine Qa ?_ _|refine Qb ?_|refine Q7 ?_ _)); exact BK196.out⟩, ⟨by repeat (first|(with_reducible first|exact HB.out|apply Q8|apply Q5|apply Q9|refine Q6 ?_ GE196.out)|exact HB.out)⟩⟩
    ·rw [if_neg c5] at H
     have c5b0 : decide (x6_1 < (l0_0.length : Int)) = false := decide_eq_false c5
     clear c5
     (first | rw [c5b0]|(simp only [i64_w, i32_w]; rw [c5b0])|skip)
     have H' := Q4 H
     clear H
     have hcz7_0 : wr.cell? ⟨gb196, 0, none⟩ = some (.slice A0_0 l0_0.length c0_0) := (blk_cell BK196.out 0).trans rfl
     have hcz7_1 : wr.cell? ⟨gb196, 1, none⟩ = some (.slice A0_1 l0_1.length c0_1) := (blk_cell BK196.out 1).trans rfl
     have hfz7_0 := blk_frozen BK196.out 0
     have hfz7_1 := blk_frozen BK196.out 1
     go_wp2
     go_meet
     case rel => exact ⟨_, (false), (by first|rfl|(simp; done)|(simp [*]; done)), H', ⟨by have := HK1.out; first|omega|exact Nat.le_refl _⟩, ⟨by (with_reducible repeat (first|refine Qa ?_ _|refine Qb ?_|refine Q7 ?_ _)); exact BK196.out⟩, ⟨by repeat (first|(with_reducible first|exact HB.out|apply Q8|apply Q5|apply Q9|refine Q6 ?_ GE196.out)|exact HB.out)⟩⟩
   case rest =>
    clear HC4
    (try clear c1);(try clear c2);(try clear p2);(try clear c5);(try clear c5b0);(try clear hcz6_0);(try clear hcz6_1);(try clear hcz7_0);(try clear hcz7_1);(try clear hfz6_0);(try clear hfz6_1);(try clear hfz7_0);(try clear hfz7_1);(try clear p2)
    obtain ⟨kq, x18_3, rfl, HA, HJ3, BK196, HB⟩ := hcut
    cases kq with
    | zero => exact absurd HA.out (by simp [curtilageref05_Find.j1])
    | succ kj3 =>
     have H := HA.out
     clear HA
     simp only [curtilageref05_Find.j1] at H
     by_cases c8 : x18_3 = true
     ·subst c8
      have H1 : (if 0 ≤ x6_1 then (if x6_1 < (l0_1.length : Int) then (if (rd l0_1 x6_1) = 0 then (curtilageref05_Find.l0 kj3 l1 (wrap64 (x6_1 + 1)) l0_0 l0_1) else (if x6_1 < (l0_0.length : Int) then ((curtilageref02_Same.f kj3 (rd_L3 l0_0 x6_1) l1).bind fun t199 => (if t199 = true then (some (x6_1, true)) else (curtilageref05_Find.l0 kj3 l1 (wrap64 (x6_1 + 1)) l0_0 l0_1))) else (none))) else (none)) else (none)) = some (r1, r2) := by rw [if_pos rfl] at H; exact H
      clear H
      have H := H1
      clear H1
      by_cases c9 : 0 ≤ x6_1
      ·rw [if_pos c9] at H
       have c9b0 : decide (0 ≤ x6_1) = true := decide_eq_true c9
       clear c9
       by_cases c10 : x6_1 < (l0_1.length : Int)
       ·rw [if_pos c10] at H
        have c10b0 : decide (x6_1 < (l0_1.length : Int)) = true := decide_eq_true c10
        clear c10
        by_cases c11 : (rd l0_1 x6_1) = 0
        ·rw [if_pos c11] at H
         have c11b0 : ((rd l0_1 x6_1) == 0) = true := beq_iff_eq.mpr c11
         have c11b1 : ((rd l0_1 x6_1) != 0) = false := bne_eq_false_iff_eq.mpr c11
         clear c11
         have H' := Q4 H
         clear H
         have hcz12_0 : wc.cell? ⟨gb196, 0, none⟩ = some (.slice A0_0 l0_0.length c0_0) := (blk_cell BK196.out 0).trans rfl
         have hcz12_1 : wc.cell? ⟨gb196, 1, none⟩ = some (.slice A0_1 l0_1.length c0_1) := (blk_cell BK196.out 1).trans rfl
         have hfz12_0 := blk_frozen BK196.out 0
         have hfz12_1 := blk_frozen BK196.out 1
         have p197 : 0 ≤ (x6_1 : Int) := Qc (by first|(with_reducible assumption)|assumption)
         have q197 : x6_1 < (l0_1.length : Int) := Qc (by first|(with_reducible assumption)|assumption)
         obtain ⟨ad197, e197, hx197_0⟩ := Kd.at_int HR0_1.out x6_1 p197 q197
         cases e197
         replace hx197_0 := (HB.out.cell (World.block_lt_of_cell? w _ hx197_0)).trans hx197_0
         replace p197 := eq_true p197
         replace q197 := eq_true q197
         go_wp2
         go_roundg kj3
         case measure => have := HK1.out; have := HJ3.out; omega
         case rel => exact ⟨(wrap64 (x6_1 + 1)), (by first|rfl|(simp; done)|(simp [*]; done)), H', ⟨by have := HK1.out; have := HJ3.out; omega⟩, ⟨by (with_reducible repeat (first|refine Qa ?_ _|refine Qb ?_|refine Q7 ?_ _)); exact BK196.out⟩, ⟨by repeat (first|(with_reducible first|exact HB.out|apply Q8|apply Q5|apply Q9|refine Q6 ?_ GE196.out)|exact HB.out)⟩⟩
        ·rw [if_neg c11] at H
         have c11b0 : ((rd l0_1 x6_1) == 0) = false := beq_eq_false_iff_ne.mpr c11
         have c11b1 : ((rd l0_1 x6_1) != 0) = true := bne_iff_ne.mpr c11
         by_cases c13 : x6_1 < (l0_0.length : Int)
         ·rw [if_pos c13] at H
          have c13b0 : decide (x6_1 < (l0_0.length : Int)) = true := decide_eq_true c13
          clear c13
          replace H := Option.bind_eq_some_iff.mp H
          obtain ⟨t199, A140, H⟩ := H
          replace H : (if t199 = true then (some (x6_1, true)) else (curtilageref05_Find.l0 kj3 l1 (wrap64 (x6_1 + 1)) l0_0 l0_1)) = some (r1, r2) := H
          have A14 := Q4 A140
          clear A140
          by_cases c15 : t199 = true
          ·subst c15
           have H1 : (some (x6_1, true)) = some (r1, r2) := by rw [if_pos rfl] at H; exact H
           clear H
           have H := H1
           clear H1
           simp only [Option.some.injEq, Prod.mk.injEq] at H
           obtain ⟨rfl, rfl⟩ := H
           have hcz16_0 : wc.cell? ⟨gb196, 0, none⟩ = some (.slice A0_0 l0_0.length c0_0) := (blk_cell BK196.out 0).trans rfl
           have hcz16_1 : wc.cell? ⟨gb196, 1, none⟩ = some (.slice A0_1 l0_1.length c0_1) := (blk_cell BK196.out 1).trans rfl
           have hfz16_0 := blk_frozen BK196.out 0
           have hfz16_1 := blk_frozen BK196.out 1
           have p197 : 0 ≤ (x6_1 : Int) := Qc (by first|(with_reducible assumption)|assumption)
           have q197 : x6_1 < (l0_1.length : Int) := Qc (by first|(with_reducible assumption)|assumption)
           obtain ⟨ad197, e197, hx197_0⟩ := Kd.at_int HR0_1.out x6_1 p197 q197
           cases e197
           replace hx197_0 := (HB.out.cell (World.block_lt_of_cell? w _ hx197_0)).trans hx197_0
           replace p197 := eq_true p197
           replace q197 := eq_true q197
           have p198 : 0 ≤ (x6_1 : Int) := Qc (by first|(with_reducible assumption)|assumption)
           have q198 : x6_1 < (l0_0.length : Int) := Qc (by first|(with_reducible assumption)|assumption)
           obtain ⟨ad198, A198_0, c198_0, e198, hx198_0, hl198_0, hi198_0⟩ := at_L3 HR0_0.out x6_1 p198 q198
           cases e198
           replace hx198_0 := (HB.out.cell (World.block_lt_of_cell? w _ hx198_0)).trans hx198_0
           have HR198_0 := Q4 hi198_0
           have HC198_0 := Q4 hl198_0
           clear hi198_0 hl198_0
           replace p198 := eq_true p198
           replace q198 := eq_true q198
           go_wp2_with (first|(go_at_call 23; (with_reducible refine (curtilageref02_Same.calls kj3 _ _ (rd_L3 l0_0 x6_1) _ _ l1 true _ ?side1 ?side2 ?side3 ?side4 A14.out).mono ?_); (case side1 => repeat (first|exact (Kd.C_below HR198_0.out HB.out)|(with_reducible refine Kd.C_alloc ?_ _)|(with_reducible refine Kd.C_drewN ?_ _)|(with_reducible refine Kd.C_drew ?_))); (case side2 => exact HC198_0.out); (case side3 => repeat (first|exact (Kd.C_below HR1.out HB.out)|(with_reducible refine Kd.C_alloc ?_ _)|(with_reducible refine Kd.C_drewN ?_ _)|(with_reducible refine Kd.C_drew ?_))); (case side4 => exact HC1.out); rintro e w' ⟨rfl, ⟨nd, rfl⟩⟩))
           go_ret2
           exact ⟨by first|rfl|(simp [errW_none, errW_some] <;> rfl)|(simp [*, errW_none, errW_some] <;> rfl), by repeat (first|(with_reducible first|exact HB.out|apply Q8|apply Q5|apply Q9|refine Q6 ?_ GE196.out)|exact HB.out)⟩
          ·replace c15 := Bool.eq_false_iff.mpr c15
           subst c15
           have H1 : (curtilageref05_Find.l0 kj3 l1 (wrap64 (x6_1 + 1)) l0_0 l0_1) = some (r1, r2) := by rw [if_neg (show ¬ (false = true) by decide)] at H; exact H
           clear H
           have H := H1
           clear H1
           have H' := Q4 H
           clear H
           have hcz17_0 : wc.cell? ⟨gb196, 0, none⟩ = some (.slice A0_0 l0_0.length c0_0) := (blk_cell BK196.out 0).trans rfl
           have hcz17_1 : wc.cell? ⟨gb196, 1, none⟩ = some (.slice A0_1 l0_1.length c0_1) := (blk_cell BK196.out 1).trans rfl
           have hfz17_0 := blk_frozen BK196.out 0
           have hfz17_1 := blk_frozen BK196.out 1
           have p197 : 0 ≤ (x6_1 : Int) := Qc (by first|(with_reducible assumption)|assumption)
           have q197 : x6_1 < (l0_1.length : Int) := Qc (by first|(with_reducible assumption)|assumption)
           obtain ⟨ad197, e197, hx197_0⟩ := Kd.at_int HR0_1.out x6_1 p197 q197
           cases e197
           replace hx197_0 := (HB.out.cell (World.block_lt_of_cell? w _ hx197_0)).trans hx197_0
           replace p197 := eq_true p197
           replace q197 := eq_true q197
           have p198 : 0 ≤ (x6_1 : Int) := Qc (by first|(with_reducible assumption)|assumption)
           have q198 : x6_1 < (l0_0.length : Int) := Qc (by first|(with_reducible assumption)|assumption)
           obtain ⟨ad198, A198_0, c198_0, e198, hx198_0, hl198_0, hi198_0⟩ := at_L3 HR0_0.out x6_1 p198 q198
           cases e198
           replace hx198_0 := (HB.out.cell (World.block_lt_of_cell? w _ hx198_0)).trans hx198_0
           have HR198_0 := Q4 hi198_0
           have HC198_0 := Q4 hl198_0
           clear hi198_0 hl198_0
           replace p198 := eq_true p198
           replace q198 := eq_true q198
           go_wp2_with (first|(go_at_call 23; (with_reducible refine (curtilageref02_Same.calls kj3 _ _ (rd_L3 l0_0 x6_1) _ _ l1 false _ ?side1 ?side2 ?side3 ?side4 A14.out).mono ?_); (case side1 => repeat (first|exact (Kd.C_below HR198_0.out HB.out)|(with_reducible refine Kd.C_alloc ?_ _)|(with_reducible refine Kd.C_drewN ?_ _)|(with_reducible refine Kd.C_drew ?_))); (case side2 => exact HC198_0.out); (case side3 => repeat (first|exact (Kd.C_below HR1.out HB.out)|(with_reducible refine Kd.C_alloc ?_ _)|(with_reducible refine Kd.C_drewN ?_ _)|(with_reducible refine Kd.C_drew ?_))); (case side4 => exact HC1.out); rintro e w' ⟨rfl, ⟨nd, rfl⟩⟩))
           go_roundg kj3
           case measure => have := HK1.out; have := HJ3.out; omega
           case rel => exact ⟨(wrap64 (x6_1 + 1)), (by first|rfl|(simp; done)|(simp [*]; done)), H', ⟨by have := HK1.out; have := HJ3.out; omega⟩, ⟨by (with_reducible repeat (first|refine Qa ?_ _|refine Qb ?_|refine Q7 ?_ _)); exact BK196.out⟩, ⟨by repeat (first|(with_reducible first|exact HB.out|apply Q8|apply Q5|apply Q9|refine Q6 ?_ GE196.out)|exact HB.out)⟩⟩
         ·rw [if_neg c13] at H
          exact absurd H (by simp)
       ·rw [if_neg c10] at H
        exact absurd H (by simp)
      ·rw [if_neg c9] at H
       exact absurd H (by simp)
     ·replace c8 := Bool.eq_false_iff.mpr c8
      subst c8
      have H1 : (some (0, false)) = some (r1, r2) := by rw [if_neg (show ¬ (false = true) by decide)] at H; exact H
      clear H
      have H := H1
      clear H1
      simp only [Option.some.injEq, Prod.mk.injEq] at H
      obtain ⟨rfl, rfl⟩ := H
      go_wp2
      go_ret2
      exact ⟨by first|rfl|(simp [errW_none, errW_some] <;> rfl)|(simp [*, errW_none, errW_some] <;> rfl), by repeat (first|(with_reducible first|exact HB.out|apply Q8|apply Q5|apply Q9|refine Q6 ?_ GE196.out)|exact HB.out)⟩

end Go.Proofs.Ytfoagjdcgipcaaa.X
-- pressed
