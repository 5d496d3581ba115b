/- Walks of Go functions: each proves that the call answers what the Lean function of its name computes, wherever that is told; written by a program of this work out of the translation. -/
import Derived.Test.YtfoagjdcgipcaaaXx0
import Derived.Test.YtfoagjdcgipcaaaJa
import Derived.Test.YtfoagjdcgipcaaaJt
import Derived.Test.YtfoagjdcgipcaaaJu
import Derived.Test.YtfoagjdcgipcaaaJv
import Derived.Test.YtfoagjdcgipcaaaJw
import Derived.Test.YtfoagjdcgipcaaaJx
import Derived.Test.YtfoagjdcgipcaaaJq
import Derived.Test.YtfoagjdcgipcaaaJr
import Derived.Test.YtfoagjdcgipcaaaJy
import Derived.Test.YtfoagjdcgipcaaaKa
import Derived.Test.YtfoagjdcgipcaaaKb
import Derived.Test.YtfoagjdcgipcaaaKc
namespace Go.Proofs.Ytfoagjdcgipcaaa.X
open Go.RowKit Go.Proofs.YtfoagjdcgipcaaaW.PrintWords Go.Proofs.YtfoagjdcgipcaaaW.PrintLast

set_option linter.unusedVariables false
set_option linter.unusedSimpArgs false

-- NOT PRINTED: function 31 (intern_keeper_asked)

-- NOT PRINTED: function 38 (api_Label_38)

-- NOT PRINTED: function 39 (slices_Clone_int_int)

-- NOT PRINTED: function 27 (intern_keeper_own)

-- NOT PRINTED: function 28 (intern_keeper_free)

-- NOT PRINTED: function 29 (api_Pair_29)

/-! ### curtilagelaw05_awake: function 6 -/
def curtilagelaw05_awake.f (k : Nat)  : Option (Bool) := (intern_Add.f k ([] : List (List (S57))) ([] : List Int) ([] : List (S57))).bind fun bt102 => ((intern_Add.f k bt102.1 bt102.2.1 ([] : List (S57))).bind fun bt111 => ((intern_Drop.f bt111.1 bt111.2.1 1).bind fun bt119 => (if bt102.2.2.1 = 0 then (if bt111.2.2.1 = 0 then (if bt102.2.2.2 = 0 then (if bt111.2.2.2 = 0 then (if (bt111.2.1.length : Int) = 1 then (if 0 < (bt111.2.1.length : Int) then (if (rd bt111.2.1 0) = 2 then (some (bt119.2.2 == 1)) else (some false)) else (none)) else (some false)) else (some false)) else (some false)) else (some false)) else (some false))))
theorem curtilagelaw05_awake.mono : ∀ k, LeO (curtilagelaw05_awake.f k ) (curtilagelaw05_awake.f (k + 1) ) := by
 intro  k
 unfold curtilagelaw05_awake.f
 repeat' first
  |(with_reducible exact intern_Add.mono _ _ _ _)
  |(with_reducible exact LeO.refl _)
  |(with_reducible exact LeO.none _)
  |(with_reducible refine LeO.ite ?_ ?_)
  |(with_reducible refine LeO.bind ?_ (fun _ => ?_))
  |exact intern_Add.mono _ _ _ _
  |exact LeO.none _
  |refine LeO.ite ?_ ?_
  |refine LeO.bind ?_ (fun _ => ?_)
set_option maxHeartbeats 8000000 in
set_option maxRecDepth 100000 in
theorem curtilagelaw05_awake.callsT (k : Nat)  (w : World) (h : curtilagelaw05_awake.f k  = some true) :
  Calls Try.prog 6 #[] w fun e w' => e = .returned (.bool true) ∧ Below w.heap.size w w' := by
 have hu27 := Try.underlying27
 have HB := Q4 (Below.refl w.heap.size w)
 have H : ((intern_Add.f k ([] : List (List (S57))) ([] : List Int) ([] : List (S57))).bind fun bt102 => ((intern_Add.f k bt102.1 bt102.2.1 ([] : List (S57))).bind fun bt111 => ((intern_Drop.f bt111.1 bt111.2.1 1).bind fun bt119 => (if bt102.2.2.1 = 0 then (if bt111.2.2.1 = 0 then (if bt102.2.2.2 = 0 then (if bt111.2.2.2 = 0 then (if (bt111.2.1.length : Int) = 1 then (if 0 < (bt111.2.1.length : Int) then (if (rd bt111.2.1 0) = 2 then (some (bt119.2.2 == 1)) else (some false)) else (none)) else (some false)) else (some false)) else (some false)) else (some false)) else (some false))))) = some true := h
 clear h
 replace H := Option.bind_eq_some_iff.mp H
 obtain ⟨⟨t102, t105, t108, t109⟩, A10, H⟩ := H
 replace H : ((intern_Add.f k t102 t105 ([] : List (S57))).bind fun bt111 => ((intern_Drop.f bt111.1 bt111.2.1 1).bind fun bt119 => (if t108 = 0 then (if bt111.2.2.1 = 0 then (if t109 = 0 then (if bt111.2.2.2 = 0 then (if (bt111.2.1.length : Int) = 1 then (if 0 < (bt111.2.1.length : Int) then (if (rd bt111.2.1 0) = 2 then (some (bt119.2.2 == 1)) else (some false)) else (none)) else (some false)) else (some false)) else (some false)) else (some false)) else (some false)))) = some true := H
 have A1 := Q4 A10
 clear A10
 replace H := Option.bind_eq_some_iff.mp H
 obtain ⟨⟨t111, t114, t117, t118⟩, A20, H⟩ := H
 replace H : ((intern_Drop.f t111 t114 1).bind fun bt119 => (if t108 = 0 then (if t117 = 0 then (if t109 = 0 then (if t118 = 0 then (if (t114.length : Int) = 1 then (if 0 < (t114.length : Int) then (if (rd t114 0) = 2 then (some (bt119.2.2 == 1)) else (some false)) else (none)) else (some false)) else (some false)) else (some false)) else (some false)) else (some false))) = some true := H
 have A2 := Q4 A20
 clear A20
 replace H := Option.bind_eq_some_iff.mp H
 obtain ⟨⟨t119, t122, t125⟩, A30, H⟩ := H
 replace H : (if t108 = 0 then (if t117 = 0 then (if t109 = 0 then (if t118 = 0 then (if (t114.length : Int) = 1 then (if 0 < (t114.length : Int) then (if (rd t114 0) = 2 then (some (t125 == 1)) else (some false)) else (none)) else (some false)) else (some false)) else (some false)) else (some false)) else (some false)) = some true := H
 have A3 := Q4 A30
 clear A30
 by_cases c4 : t108 = 0
 ·rw [if_pos c4] at H
  have c4b0 : (t108 == 0) = true := beq_iff_eq.mpr c4
  have c4b1 : (t108 != 0) = false := bne_eq_false_iff_eq.mpr c4
  clear c4
  by_cases c5 : t117 = 0
  ·rw [if_pos c5] at H
   have c5b0 : (t117 == 0) = true := beq_iff_eq.mpr c5
   have c5b1 : (t117 != 0) = false := bne_eq_false_iff_eq.mpr c5
   clear c5
   by_cases c6 : t109 = 0
   ·rw [if_pos c6] at H
    have c6b0 : (t109 == 0) = true := beq_iff_eq.mpr c6
    have c6b1 : (t109 != 0) = false := bne_eq_false_iff_eq.mpr c6
    clear c6
    by_cases c7 : t118 = 0
    ·rw [if_pos c7] at H
     have c7b0 : (t118 == 0) = true := beq_iff_eq.mpr c7
     have c7b1 : (t118 != 0) = false := bne_eq_false_iff_eq.mpr c7
     clear c7
     by_cases c8 : (t114.length : Int) = 1
     ·rw [if_pos c8] at H
      have c8b0 : ((t114.length : Int) == 1) = true := beq_iff_eq.mpr c8
      have c8b1 : ((t114.length : Int) != 1) = false := bne_eq_false_iff_eq.mpr c8
      clear c8
      by_cases c9 : 0 < (t114.length : Int)
      ·rw [if_pos c9] at H
       have c9b0 : decide (0 < (t114.length : Int)) = true := decide_eq_true c9
       have c9b1 : decide (0 < t114.length) = true := decide_eq_true (by omega)
       clear c9
       by_cases c10 : (rd t114 0) = 2
       ·rw [if_pos c10] at H
        have c10b0 : ((rd t114 0) == 2) = true := beq_iff_eq.mpr c10
        have c10b1 : ((rd t114 0) != 2) = false := bne_eq_false_iff_eq.mpr c10
        clear c10
        have HE_ := Option.some.inj H; rw [← HE_]; clear HE_ H
        go_enter Try.func6, Try.ntmps6
        go_wp2_with (first|((with_reducible refine gate_callee (f := 8) rfl ?_); refine goesL_ (some 10) rfl rfl Try.func8 (by kernel_rfl) rfl #[.agg #[.slice none 0 0, .slice none 0 0], .slice none 0 0] rfl (by (try simp only [List.map_toArray, List.map_cons, List.map_nil]); first | done|rfl|(simp only [List.length_drop, List.length_take]; rfl)) ?_; (refine (intern_Add.calls k (fun k_ => False) _ _ ([] : List (List (S57))) (fun k_ => False) _ _ ([] : List Int) _ _ ([] : List (S57)) t102 t105 t108 t109 _ ?side1 ?side2 ?side3 ?side4 A1.out).mono ?_); (case side1 => exact Kd.V_nil _ _ _ _ _); (case side2 => exact Kd.V_nil _ _ _ _ _); (case side3 => exact Kd.C_nil _ _); (case side4 => exact Nat.le_refl _); rintro e w11 ⟨v103, v106, rfl, ho0, ho1, hb⟩; refine ⟨_, rfl, ?_⟩; have n0_ := Q4 (Kd.V_lower (Kd.V_mono (ok' := fun k_ => True) ho0 (fun k_ hk_ => trivial)) (below_size (by repeat (first|(with_reducible first|exact HB.out|apply Q8|apply Q5|apply Q9)|exact HB.out)))); have n1_ := Q4 (Kd.V_lower (Kd.V_mono (ok' := fun k_ => True) ho1 (fun k_ hk_ => trivial)) (below_size (by repeat (first|(with_reducible first|exact HB.out|apply Q8|apply Q5|apply Q9)|exact HB.out)))); have n2_ := Q4 (below_step (by repeat (first|(with_reducible first|exact HB.out|apply Q8|apply Q5|apply Q9)|exact HB.out)) hb); clear HB; have HO104 := n0_; have HO107 := n1_; have HB := n2_; clear n0_ n1_ n2_;(try clear hb);(try clear hb2);(try clear hk);(try clear hi);(try clear ho0);(try clear ho1))|((with_reducible refine gate_dst (N := 1) rfl ?_); (try (refine gate_guard (by rfl) ?_; dsimp only)); refine box_event ?hg (N := 1) ?hd (cs := #[.slice none 0 0, .slice none 0 0]) (t := 27) ?hr ?_; (case hd => rfl); (case hg => rfl); (case hr => first|(go_simp; done)|(go_simp; rfl)); intro gb110 hg w12 hbox hb; have n0_ := Q4 (Kd.V_below (Kd.V_elderB (by (with_reducible repeat (first|apply Kd.V_alloc|apply Kd.V_drewN|apply Kd.V_drew)); exact HO104.out) gb110 (Nat.le_of_eq hg.symm)) hb); have n1_ := Q4 (Kd.V_below (Kd.V_elderB (by (with_reducible repeat (first|apply Kd.V_alloc|apply Kd.V_drewN|apply Kd.V_drew)); exact HO107.out) gb110 (Nat.le_of_eq hg.symm)) hb); have n2_ := Q4 (below_step (by repeat (first|(with_reducible first|exact HB.out|apply Q8|apply Q5|apply Q9)|exact HB.out)) hb); have n3_ := Q4 (hbox); have n4_ := Q4 ((by rw [hg]; exact (below_size (by repeat (first|(with_reducible first|exact HB.out|apply Q8|apply Q5|apply Q9)|exact HB.out))) : w.heap.size ≤ gb110)); have n5_ := Q4 ((by rw [hg]; exact (below_size (by repeat (first|(with_reducible first|exact HB.out|apply Q8|apply Q5|apply Q9)|exact HB.out))) : w.heap.size ≤ gb110)); clear HO104; clear HO107; clear HB; have HO104 := n0_; have HO107 := n1_; have HB := n2_; have BK110 := n3_; have GW110 := n4_; have GE110 := n5_; clear n0_ n1_ n2_ n3_ n4_ n5_; clear hb hbox hg; obtain ⟨Ao13, co13, eo13⟩ := Kd.V_slice HO104.out; subst eo13; have hcz14_0 : w12.cell? ⟨gb110, 0, none⟩ = some (.slice none 0 0) := (blk_cell BK110.out 0).trans rfl; have hcz14_1 : w12.cell? ⟨gb110, 1, none⟩ = some (.slice none 0 0) := (blk_cell BK110.out 1).trans rfl; have hfz14_0 := blk_frozen BK110.out 0; have hfz14_1 := blk_frozen BK110.out 1; obtain ⟨Ao15, co15, eo15⟩ := Kd.V_slice HO107.out; subst eo15)|((with_reducible refine gate_store (t := 27) (p := 1) rfl ?_); refine store_event (t := 27) (p := 1) (v := ?vo_w16) (w1 := ((w12.setCell ⟨gb110, 0, none⟩ (.slice Ao13 t102.length co13)).setCell ⟨gb110, 1, none⟩ (.slice Ao15 t105.length co15))) ?hg ?ho ?hn ?hr ?_; (case ho => rfl); (case hg => rfl); (case hn => rfl); (case hr => first|(go_simp; done)|(go_simp; rfl)); intro w16 hw; have n0_ : Aside0 (Kd.V (Kd.slice 57 k57) 29 w16 w.heap.size (fun k_ => k_ ≠ gb110) (.slice Ao13 t102.length co13) t102) := ⟨(by rw [hw]; exact (by (with_reducible repeat (first|apply Kd.V_alloc|apply Kd.V_drewN|apply Kd.V_drew)); exact Kd.V_mono (Kd.V_far (p := ⟨gb110, 1, none⟩) (Kd.V_far (p := ⟨gb110, 0, none⟩) (Kd.V_mono HO104.out (fun k_ hk => (⟨hk, hk.2⟩ : _ ∧ k_ ≠ gb110))) (fun _ hk => hk.2) (.slice Ao13 t102.length co13)) (fun _ hk => hk.2) (.slice Ao15 t105.length co15)) (fun _ hk => hk.1.2)))⟩; have n1_ : Aside0 (Kd.V (Kd.int .i64) 3 w16 w.heap.size (fun k_ => k_ ≠ gb110) (.slice Ao15 t105.length co15) t105) := ⟨(by rw [hw]; exact (by (with_reducible repeat (first|apply Kd.V_alloc|apply Kd.V_drewN|apply Kd.V_drew)); exact Kd.V_mono (Kd.V_far (p := ⟨gb110, 1, none⟩) (Kd.V_far (p := ⟨gb110, 0, none⟩) (Kd.V_mono HO107.out (fun k_ hk => (⟨hk, hk.2⟩ : _ ∧ k_ ≠ gb110))) (fun _ hk => hk.2) (.slice Ao13 t102.length co13)) (fun _ hk => hk.2) (.slice Ao15 t105.length co15)) (fun _ hk => hk.1.2)))⟩; have n2_ : Aside0 (w16.heap[gb110]? = some (.cells #[.slice Ao13 t102.length co13, .slice Ao15 t105.length co15] 27 (0, 0))) := ⟨(by rw [hw]; exact (by (with_reducible repeat (first|refine Qa ?_ _|refine Qb ?_|refine Q7 ?_ _)); refine blk_put (cs := #[.slice Ao13 t102.length co13, .slice none 0 0]) ?_ 1 _ rfl; (with_reducible repeat (first|refine Qa ?_ _|refine Qb ?_|refine Q7 ?_ _)); refine blk_put (cs := #[.slice none 0 0, .slice none 0 0]) ?_ 0 _ rfl; (with_reducible repeat (first|refine Qa ?_ _|refine Qb ?_|refine Q7 ?_ _)); exact BK110.out))⟩; have n3_ : Aside0 (Below w.heap.size w w16) := ⟨(by rw [hw]; exact (by repeat (first|(with_reducible first|exact HB.out|apply Q8|apply Q5|apply Q9|refine Q6 ?_ GE110.out)|exact HB.out)))⟩; clear hw; clear HO104; clear HO107; clear BK110; clear HB; have HO104 := n0_; have HO107 := n1_; have BK110 := n2_; have HB := n3_; clear n0_ n1_ n2_ n3_; have hcz17_0 : w16.cell? ⟨gb110, 0, none⟩ = some (.slice Ao13 t102.length co13) := (blk_cell BK110.out 0).trans rfl; have hcz17_1 : w16.cell? ⟨gb110, 1, none⟩ = some (.slice Ao15 t105.length co15) := (blk_cell BK110.out 1).trans rfl; have hfz17_0 := blk_frozen BK110.out 0; have hfz17_1 := blk_frozen BK110.out 1)|((with_reducible refine gate_callee (f := 8) rfl ?_); refine goesL_ (some 16) rfl rfl Try.func8 (by kernel_rfl) rfl #[.agg #[.slice Ao13 t102.length co13, .slice Ao15 t105.length co15], .slice none 0 0] rfl (by (try simp only [List.map_toArray, List.map_cons, List.map_nil]); first | done|rfl|(simp only [List.length_drop, List.length_take]; rfl)) ?_; (refine (intern_Add.calls k (fun k_ => k_ ≠ gb110) _ _ t102 (fun k_ => k_ ≠ gb110) _ _ t105 _ _ ([] : List (S57)) t111 t114 t117 t118 _ ?side1 ?side2 ?side3 ?side4 A2.out).mono ?_); (case side1 => exact HO104.out); (case side2 => exact HO107.out); (case side3 => exact Kd.C_nil _ _); (case side4 => exact Nat.le_refl _); rintro e w18 ⟨v112, v115, rfl, ho0, ho1, hb⟩; refine ⟨_, rfl, ?_⟩; have n0_ := Q4 (Kd.V_below (by (with_reducible repeat (first|apply Kd.V_alloc|apply Kd.V_drewN|apply Kd.V_drew)); exact HO104.out) hb); have n1_ := Q4 (Kd.V_below (by (with_reducible repeat (first|apply Kd.V_alloc|apply Kd.V_drewN|apply Kd.V_drew)); exact HO107.out) hb); have n2_ := Q4 (Kd.V_lower (Kd.V_mono (ok' := fun k_ => k_ ≠ gb110) ho0 (fun k_ hk_ => Or.elim hk_ (fun hs_ => Or.elim hs_ (fun hs_ => hs_) (fun hs_ => hs_)) (fun hn_ => (Kd.freshB (g := gb110) (o := .cells #[.slice Ao13 t102.length co13, .slice Ao15 t105.length co15] 27 (0, 0)) (by (with_reducible repeat (first|refine Qa ?_ _|refine Qb ?_|refine Q7 ?_ _)); exact BK110.out) k_ hn_)))) (below_size (by repeat (first|(with_reducible first|exact HB.out|apply Q8|apply Q5|apply Q9|refine Q6 ?_ GE110.out)|exact HB.out)))); have n3_ := Q4 (Kd.V_lower (Kd.V_mono (ok' := fun k_ => k_ ≠ gb110) ho1 (fun k_ hk_ => Or.elim hk_ (fun hs_ => Or.elim hs_ (fun hs_ => hs_) (fun hs_ => hs_)) (fun hn_ => (Kd.freshB (g := gb110) (o := .cells #[.slice Ao13 t102.length co13, .slice Ao15 t105.length co15] 27 (0, 0)) (by (with_reducible repeat (first|refine Qa ?_ _|refine Qb ?_|refine Q7 ?_ _)); exact BK110.out) k_ hn_)))) (below_size (by repeat (first|(with_reducible first|exact HB.out|apply Q8|apply Q5|apply Q9|refine Q6 ?_ GE110.out)|exact HB.out)))); have n4_ := Q4 (blk_below (g := gb110) (o := .cells #[.slice Ao13 t102.length co13, .slice Ao15 t105.length co15] 27 (0, 0)) (by (with_reducible repeat (first|refine Qa ?_ _|refine Qb ?_|refine Q7 ?_ _)); exact BK110.out) hb); have n5_ := Q4 (below_step (by repeat (first|(with_reducible first|exact HB.out|apply Q8|apply Q5|apply Q9|refine Q6 ?_ GE110.out)|exact HB.out)) hb); clear HO104; clear HO107; clear BK110; clear HB; have HO104 := n0_; have HO107 := n1_; have HO113 := n2_; have HO116 := n3_; have BK110 := n4_; have HB := n5_; clear n0_ n1_ n2_ n3_ n4_ n5_;(try clear hb);(try clear hb2);(try clear hk);(try clear hi);(try clear ho0);(try clear ho1); obtain ⟨Ao19, co19, eo19⟩ := Kd.V_slice HO113.out; subst eo19; have hcz20_0 : w18.cell? ⟨gb110, 0, none⟩ = some (.slice Ao13 t102.length co13) := (blk_cell BK110.out 0).trans rfl; have hcz20_1 : w18.cell? ⟨gb110, 1, none⟩ = some (.slice Ao15 t105.length co15) := (blk_cell BK110.out 1).trans rfl; have hfz20_0 := blk_frozen BK110.out 0; have hfz20_1 := blk_frozen BK110.out 1; obtain ⟨Ao21, co21, eo21⟩ := Kd.V_slice HO116.out; subst eo21)|((with_reducible refine gate_store (t := 27) (p := 1) rfl ?_); refine store_event (t := 27) (p := 1) (v := ?vo_w22) (w1 := ((w18.setCell ⟨gb110, 0, none⟩ (.slice Ao19 t111.length co19)).setCell ⟨gb110, 1, none⟩ (.slice Ao21 t114.length co21))) ?hg ?ho ?hn ?hr ?_; (case ho => rfl); (case hg => rfl); (case hn => rfl); (case hr => first|(go_simp; done)|(go_simp; rfl)); intro w22 hw; have n0_ : Aside0 (Kd.V (Kd.slice 57 k57) 29 w22 w.heap.size (fun k_ => k_ ≠ gb110) (.slice Ao13 t102.length co13) t102) := ⟨(by rw [hw]; exact (by (with_reducible repeat (first|apply Kd.V_alloc|apply Kd.V_drewN|apply Kd.V_drew)); exact Kd.V_mono (Kd.V_far (p := ⟨gb110, 1, none⟩) (Kd.V_far (p := ⟨gb110, 0, none⟩) (Kd.V_mono HO104.out (fun k_ hk => (⟨hk, hk⟩ : _ ∧ k_ ≠ gb110))) (fun _ hk => hk.2) (.slice Ao19 t111.length co19)) (fun _ hk => hk.2) (.slice Ao21 t114.length co21)) (fun _ hk => hk.1)))⟩; have n1_ : Aside0 (Kd.V (Kd.int .i64) 3 w22 w.heap.size (fun k_ => k_ ≠ gb110) (.slice Ao15 t105.length co15) t105) := ⟨(by rw [hw]; exact (by (with_reducible repeat (first|apply Kd.V_alloc|apply Kd.V_drewN|apply Kd.V_drew)); exact Kd.V_mono (Kd.V_far (p := ⟨gb110, 1, none⟩) (Kd.V_far (p := ⟨gb110, 0, none⟩) (Kd.V_mono HO107.out (fun k_ hk => (⟨hk, hk⟩ : _ ∧ k_ ≠ gb110))) (fun _ hk => hk.2) (.slice Ao19 t111.length co19)) (fun _ hk => hk.2) (.slice Ao21 t114.length co21)) (fun _ hk => hk.1)))⟩; have n2_ : Aside0 (Kd.V (Kd.slice 57 k57) 29 w22 w.heap.size (fun k_ => k_ ≠ gb110) (.slice Ao19 t111.length co19) t111) := ⟨(by rw [hw]; exact (by (with_reducible repeat (first|apply Kd.V_alloc|apply Kd.V_drewN|apply Kd.V_drew)); exact Kd.V_mono (Kd.V_far (p := ⟨gb110, 1, none⟩) (Kd.V_far (p := ⟨gb110, 0, none⟩) (Kd.V_mono HO113.out (fun k_ hk => (⟨hk, hk⟩ : _ ∧ k_ ≠ gb110))) (fun _ hk => hk.2) (.slice Ao19 t111.length co19)) (fun _ hk => hk.2) (.slice Ao21 t114.length co21)) (fun _ hk => hk.1)))⟩; have n3_ : Aside0 (Kd.V (Kd.int .i64) 3 w22 w.heap.size (fun k_ => k_ ≠ gb110) (.slice Ao21 t114.length co21) t114) := ⟨(by rw [hw]; exact (by (with_reducible repeat (first|apply Kd.V_alloc|apply Kd.V_drewN|apply Kd.V_drew)); exact Kd.V_mono (Kd.V_far (p := ⟨gb110, 1, none⟩) (Kd.V_far (p := ⟨gb110, 0, none⟩) (Kd.V_mono HO116.out (fun k_ hk => (⟨hk, hk⟩ : _ ∧ k_ ≠ gb110))) (fun _ hk => hk.2) (.slice Ao19 t111.length co19)) (fun _ hk => hk.2) (.slice Ao21 t114.length co21)) (fun _ hk => hk.1)))⟩; have n4_ : Aside0 (w22.heap[gb110]? = some (.cells #[.slice Ao19 t111.length co19, .slice Ao21 t114.length co21] 27 (0, 0))) := ⟨(by rw [hw]; exact (by (with_reducible repeat (first|refine Qa ?_ _|refine Qb ?_|refine Q7 ?_ _)); refine blk_put (cs := #[.slice Ao19 t111.length co19, .slice Ao15 t105.length co15]) ?_ 1 _ rfl; (with_reducible repeat (first|refine Qa ?_ _|refine Qb ?_|refine Q7 ?_ _)); refine blk_put (cs := #[.slice Ao13 t102.length co13, .slice Ao15 t105.length co15]) ?_ 0 _ rfl; (with_reducible repeat (first|refine Qa ?_ _|refine Qb ?_|refine Q7 ?_ _)); exact BK110.out))⟩; have n5_ : Aside0 (Below w.heap.size w w22) := ⟨(by rw [hw]; exact (by repeat (first|(with_reducible first|exact HB.out|apply Q8|apply Q5|apply Q9|refine Q6 ?_ GE110.out)|exact HB.out)))⟩; clear hw; clear HO104; clear HO107; clear HO113; clear HO116; clear BK110; clear HB; have HO104 := n0_; have HO107 := n1_; have HO113 := n2_; have HO116 := n3_; have BK110 := n4_; have HB := n5_; clear n0_ n1_ n2_ n3_ n4_ n5_; have hcz23_0 : w22.cell? ⟨gb110, 0, none⟩ = some (.slice Ao19 t111.length co19) := (blk_cell BK110.out 0).trans rfl; have hcz23_1 : w22.cell? ⟨gb110, 1, none⟩ = some (.slice Ao21 t114.length co21) := (blk_cell BK110.out 1).trans rfl; have hfz23_0 := blk_frozen BK110.out 0; have hfz23_1 := blk_frozen BK110.out 1)|((with_reducible refine gate_callee (f := 9) rfl ?_); refine goesL_ (some 22) rfl rfl Try.func9 (by kernel_rfl) rfl #[.agg #[.slice Ao19 t111.length co19, .slice Ao21 t114.length co21], .int .i64 1] rfl (by (try simp only [List.map_toArray, List.map_cons, List.map_nil]); first | done|rfl|(simp only [List.length_drop, List.length_take]; rfl)) ?_; (with_reducible refine (intern_Drop.calls (fun k_ => k_ ≠ gb110) _ _ t111 (fun k_ => k_ ≠ gb110) _ _ t114 1 t119 t122 t125 _ ?side1 ?side2 A3.out).mono ?_); (case side1 => exact HO113.out); (case side2 => exact HO116.out); rintro e w24 ⟨v120, v123, rfl, ho0, ho1, hb⟩; refine ⟨_, rfl, ?_⟩; have n0_ := Q4 (Kd.V_below (by (with_reducible repeat (first|apply Kd.V_alloc|apply Kd.V_drewN|apply Kd.V_drew)); exact HO104.out) hb); have n1_ := Q4 (Kd.V_below (by (with_reducible repeat (first|apply Kd.V_alloc|apply Kd.V_drewN|apply Kd.V_drew)); exact HO107.out) hb); have n2_ := Q4 (Kd.V_below (by (with_reducible repeat (first|apply Kd.V_alloc|apply Kd.V_drewN|apply Kd.V_drew)); exact HO113.out) hb); have n3_ := Q4 (Kd.V_below (by (with_reducible repeat (first|apply Kd.V_alloc|apply Kd.V_drewN|apply Kd.V_drew)); exact HO116.out) hb); have n4_ := Q4 (Kd.V_lower (Kd.V_mono (ok' := fun k_ => k_ ≠ gb110) ho0 (fun k_ hk_ => Or.elim hk_ (fun hs_ => Or.elim hs_ (fun hs_ => hs_) (fun hs_ => hs_)) (fun hn_ => (Kd.freshB (g := gb110) (o := .cells #[.slice Ao19 t111.length co19, .slice Ao21 t114.length co21] 27 (0, 0)) (by (with_reducible repeat (first|refine Qa ?_ _|refine Qb ?_|refine Q7 ?_ _)); exact BK110.out) k_ hn_)))) (below_size (by repeat (first|(with_reducible first|exact HB.out|apply Q8|apply Q5|apply Q9|refine Q6 ?_ GE110.out)|exact HB.out)))); have n5_ := Q4 (Kd.V_lower (Kd.V_mono (ok' := fun k_ => k_ ≠ gb110) ho1 (fun k_ hk_ => Or.elim hk_ (fun hs_ => Or.elim hs_ (fun hs_ => hs_) (fun hs_ => hs_)) (fun hn_ => (Kd.freshB (g := gb110) (o := .cells #[.slice Ao19 t111.length co19, .slice Ao21 t114.length co21] 27 (0, 0)) (by (with_reducible repeat (first|refine Qa ?_ _|refine Qb ?_|refine Q7 ?_ _)); exact BK110.out) k_ hn_)))) (below_size (by repeat (first|(with_reducible first|exact HB.out|apply Q8|apply Q5|apply Q9|refine Q6 ?_ GE110.out)|exact HB.out)))); have n6_ := Q4 (blk_below (g := gb110) (o := .cells #[.slice Ao19 t111.length co19, .slice Ao21 t114.length co21] 27 (0, 0)) (by (with_reducible repeat (first|refine Qa ?_ _|refine Qb ?_|refine Q7 ?_ _)); exact BK110.out) hb); have n7_ := Q4 (below_step (by repeat (first|(with_reducible first|exact HB.out|apply Q8|apply Q5|apply Q9|refine Q6 ?_ GE110.out)|exact HB.out)) hb); clear HO104; clear HO107; clear HO113; clear HO116; clear BK110; clear HB; have HO104 := n0_; have HO107 := n1_; have HO113 := n2_; have HO116 := n3_; have HO121 := n4_; have HO124 := n5_; have BK110 := n6_; have HB := n7_; clear n0_ n1_ n2_ n3_ n4_ n5_ n6_ n7_;(try clear hb);(try clear hb2);(try clear hk);(try clear hi);(try clear ho0);(try clear ho1))|((with_reducible refine gate_dst (N := 6) rfl ?_); (try (refine gate_guard (by rfl) ?_; dsimp only)); refine box_event ?hg (N := 6) ?hd (cs := #[.slice none 0 0, .slice none 0 0]) (t := 27) ?hr ?_; (case hd => rfl); (case hg => rfl); (case hr => first|(go_simp; done)|(go_simp; rfl)); intro gb126 hg w25 hbox hb; have n0_ := Q4 (Kd.V_below (Kd.V_elderB (by (with_reducible repeat (first|apply Kd.V_alloc|apply Kd.V_drewN|apply Kd.V_drew)); exact HO104.out) gb126 (Nat.le_of_eq hg.symm)) hb); have n1_ := Q4 (Kd.V_below (Kd.V_elderB (by (with_reducible repeat (first|apply Kd.V_alloc|apply Kd.V_drewN|apply Kd.V_drew)); exact HO107.out) gb126 (Nat.le_of_eq hg.symm)) hb); have n2_ := Q4 (Kd.V_below (Kd.V_elderB (by (with_reducible repeat (first|apply Kd.V_alloc|apply Kd.V_drewN|apply Kd.V_drew)); exact HO113.out) gb126 (Nat.le_of_eq hg.symm)) hb); have n3_ := Q4 (Kd.V_below (Kd.V_elderB (by (with_reducible repeat (first|apply Kd.V_alloc|apply Kd.V_drewN|apply Kd.V_drew)); exact HO116.out) gb126 (Nat.le_of_eq hg.symm)) hb); have n4_ := Q4 (Kd.V_below (Kd.V_elderB (by (with_reducible repeat (first|apply Kd.V_alloc|apply Kd.V_drewN|apply Kd.V_drew)); exact HO121.out) gb126 (Nat.le_of_eq hg.symm)) hb); have n5_ := Q4 (Kd.V_below (Kd.V_elderB (by (with_reducible repeat (first|apply Kd.V_alloc|apply Kd.V_drewN|apply Kd.V_drew)); exact HO124.out) gb126 (Nat.le_of_eq hg.symm)) hb); have n6_ := Q4 (blk_below (g := gb110) (o := .cells #[.slice Ao19 t111.length co19, .slice Ao21 t114.length co21] 27 (0, 0)) (by (with_reducible repeat (first|refine Qa ?_ _|refine Qb ?_|refine Q7 ?_ _)); exact BK110.out) hb); have n7_ := Q4 (below_step (by repeat (first|(with_reducible first|exact HB.out|apply Q8|apply Q5|apply Q9|refine Q6 ?_ GE110.out)|exact HB.out)) hb); have n8_ := Q4 (hbox); have n9_ := Q4 ((by rw [hg]; exact (below_size (by repeat (first|(with_reducible first|exact HB.out|apply Q8|apply Q5|apply Q9|refine Q6 ?_ GE110.out)|exact HB.out))) : w.heap.size ≤ gb126)); have n10_ := Q4 ((by rw [hg]; exact (below_size (by repeat (first|(with_reducible first|exact HB.out|apply Q8|apply Q5|apply Q9|refine Q6 ?_ GE110.out)|exact HB.out))) : w.heap.size ≤ gb126)); have n11_ := Q4 ((by rw [hg]; exact Nat.ne_of_lt (blk_lt (g := gb110) (o := .cells #[.slice Ao19 t111.length co19, .slice Ao21 t114.length co21] 27 (0, 0)) (by (with_reducible repeat (first|refine Qa ?_ _|refine Qb ?_|refine Q7 ?_ _)); exact BK110.out)) : gb110 ≠ gb126)); have n12_ := Q4 ((by rw [hg]; exact Nat.ne_of_gt (blk_lt (g := gb110) (o := .cells #[.slice Ao19 t111.length co19, .slice Ao21 t114.length co21] 27 (0, 0)) (by (with_reducible repeat (first|refine Qa ?_ _|refine Qb ?_|refine Q7 ?_ _)); exact BK110.out)) : gb126 ≠ gb110)); clear HO104; clear HO107; clear HO113; clear HO116; clear HO121; clear HO124; clear BK110; clear HB; have HO104 := n0_; have HO107 := n1_; have HO113 := n2_; have HO116 := n3_; have HO121 := n4_; have HO124 := n5_; have BK110 := n6_; have HB := n7_; have BK126 := n8_; have GW126 := n9_; have GE126 := n10_; have NB110_126 := n11_; have NB126_110 := n12_; clear n0_ n1_ n2_ n3_ n4_ n5_ n6_ n7_ n8_ n9_ n10_ n11_ n12_; clear hb hbox hg; obtain ⟨Ao26, co26, eo26⟩ := Kd.V_slice HO121.out; subst eo26; have hnb27 := NB126_110.out; have hnc27 := NB110_126.out; have hcz28_0 : w25.cell? ⟨gb126, 0, none⟩ = some (.slice none 0 0) := (blk_cell BK126.out 0).trans rfl; have hcz28_1 : w25.cell? ⟨gb126, 1, none⟩ = some (.slice none 0 0) := (blk_cell BK126.out 1).trans rfl; have hfz28_0 := blk_frozen BK126.out 0; have hfz28_1 := blk_frozen BK126.out 1; obtain ⟨Ao29, co29, eo29⟩ := Kd.V_slice HO124.out; subst eo29; have hcz30_0 : w25.cell? ⟨gb110, 0, none⟩ = some (.slice Ao19 t111.length co19) := (blk_cell BK110.out 0).trans rfl; have hcz30_1 : w25.cell? ⟨gb110, 1, none⟩ = some (.slice Ao21 t114.length co21) := (blk_cell BK110.out 1).trans rfl; have hfz30_0 := blk_frozen BK110.out 0; have hfz30_1 := blk_frozen BK110.out 1; have p127 : 0 ≤ (0 : Int) := (by omega); have q127 : 0 < (t114.length : Int) := Qc (by first|(with_reducible assumption)|assumption); obtain ⟨ad127, e127, hx127_0⟩ := Kd.at_int (Kd.V_reads' HO116.out).2.2 0 p127 q127; cases e127; have qi127 : (0 < t114.length) = True := eq_true (by omega); (try rw [show ((0 : Int)).toNat = 0 from rfl] at hx127_0); (try rw [Addr.add_zero'] at hx127_0); have hn127_0 : ad127.block ≠ gb126 := (V_off HO116.out (by omega) (by decide)).2; have hn127_1 : ad127.block ≠ gb126 := (V_off HO116.out (by omega) (by decide)).2; replace hx127_0 := (cell_far (p := ⟨gb126, 0, none⟩) (by first|(rw [add_block]; exact hn127_0)|(show (Addr.add _ _).block ≠ _; rw [add_block]; exact hn127_0)|exact hn127_0) (.slice Ao26 t119.length co26)).trans hx127_0; replace hx127_0 := (cell_far (p := ⟨gb126, 1, none⟩) (by first|(rw [add_block]; exact hn127_1)|(show (Addr.add _ _).block ≠ _; rw [add_block]; exact hn127_1)|exact hn127_1) (.slice Ao29 t122.length co29)).trans hx127_0; clear hn127_0; clear hn127_1; replace p127 := eq_true p127; replace q127 := eq_true q127))
        go_ret
        exact ⟨by first|rfl|(simp [errW_none, errW_some] <;> rfl)|(simp [*, errW_none, errW_some] <;> rfl), by repeat (first|(with_reducible first|exact HB.out|apply Q8|apply Q5|apply Q9|refine Q6 ?_ GE110.out|refine Q6 ?_ GE126.out)|exact HB.out)⟩
       ·rw [if_neg c10] at H
        have c10b0 : ((rd t114 0) == 2) = false := beq_eq_false_iff_ne.mpr c10
        have c10b1 : ((rd t114 0) != 2) = true := bne_iff_ne.mpr c10
        exact absurd H (by first | decide)
      ·rw [if_neg c9] at H
       exact absurd H (by simp)
     ·rw [if_neg c8] at H
      have c8b0 : ((t114.length : Int) == 1) = false := beq_eq_false_iff_ne.mpr c8
      have c8b1 : ((t114.length : Int) != 1) = true := bne_iff_ne.mpr c8
      exact absurd H (by first | decide)
    ·rw [if_neg c7] at H
     have c7b0 : (t118 == 0) = false := beq_eq_false_iff_ne.mpr c7
     have c7b1 : (t118 != 0) = true := bne_iff_ne.mpr c7
     exact absurd H (by first | decide)
   ·rw [if_neg c6] at H
    have c6b0 : (t109 == 0) = false := beq_eq_false_iff_ne.mpr c6
    have c6b1 : (t109 != 0) = true := bne_iff_ne.mpr c6
    exact absurd H (by first | decide)
  ·rw [if_neg c5] at H
   have c5b0 : (t117 == 0) = false := beq_eq_false_iff_ne.mpr c5
   have c5b1 : (t117 != 0) = true := bne_iff_ne.mpr c5
   exact absurd H (by first | decide)
 ·rw [if_neg c4] at H
  have c4b0 : (t108 == 0) = false := beq_eq_false_iff_ne.mpr c4
  have c4b1 : (t108 != 0) = true := bne_iff_ne.mpr c4
  exact absurd H (by first | decide)

theorem curtilagelaw05_awake.true5 : curtilagelaw05_awake.f 5 = some true := by
  have e0 : intern_good.f 5 ([] : List S57) = some true := rfl
  have e1 : intern_Add.f 5 [] [] [] = some ([[]], [1], 0, 0) := by unfold intern_Add.f; rw [e0]; rfl
  have e2 : intern_Add.f 5 [[]] [1] [] = some ([[]], [2], 0, 0) := by
    unfold intern_Add.f
    rw [e0]
    exact (show intern_Add.g [[]] [1] [] = some ([[]], [1].set 0 (wrap64 (1 + 1)), 0, 0) from rfl).trans (by rw [wrap_ok (1 + 1) (by omega) (by omega)]; rfl)
  unfold curtilagelaw05_awake.f
  rw [e1]
  simp only [Option.bind_some]
  rw [e2]
  rfl
theorem curtilagelaw05_awake.up (k n : Nat) (r : Bool) (h : curtilagelaw05_awake.f k = some r) : curtilagelaw05_awake.f (k + n) = some r := by
  induction n with
  | zero => exact h
  | succ n ih => exact curtilagelaw05_awake.mono _ r ih
theorem curtilagelaw05_awake.calls (k : Nat)  (r : Bool) (w : World) (h : curtilagelaw05_awake.f k  = some r) :
    Calls Try.prog 6 #[] w fun e w' => e = .returned (.bool r) ∧ Below w.heap.size w w' := by
  have h1 := curtilagelaw05_awake.up k 5 r h
  have h2 := curtilagelaw05_awake.up 5 k true curtilagelaw05_awake.true5
  rw [Nat.add_comm 5 k, h1] at h2
  obtain rfl : r = true := by injection h2
  exact curtilagelaw05_awake.callsT k w h

/-! ### curtilageref01_Fit: function 25 -/
def curtilageref01_Fit.f (a0 : Int) : Option (Bool) := if a0 ≥ 0 then (some (decide (a0 ≤ 5))) else (some false)
set_option maxHeartbeats 8000000 in
set_option maxRecDepth 100000 in
theorem curtilageref01_Fit.calls (a0 : Int) (r : Bool) (w : World) (h : curtilageref01_Fit.f a0 = some r) :
  Calls Try.prog 25 #[.int .i64 a0] w fun e w' => e = .returned (.bool r) ∧ Drawn0 w w' := by
 have H : (if a0 ≥ 0 then (some (decide (a0 ≤ 5))) else (some false)) = some r := h
 clear h
 by_cases c2 : a0 ≥ 0
 ·rw [if_pos c2] at H
  have c2b0 : decide (0 ≤ a0) = true := decide_eq_true c2
  clear c2
  obtain rfl := Option.some.inj H
  go_enter Try.func25, Try.ntmps25
  go_wp2
  go_ret
  exact ⟨by first|rfl|(simp; done)|(simp [*]; done), by repeat (first|exact Drawn0.refl _|apply Drawn0.step)⟩
 ·rw [if_neg c2] at H
  have c2b0 : decide (0 ≤ a0) = false := decide_eq_false c2
  clear c2
  obtain rfl := Option.some.inj H
  go_enter Try.func25, Try.ntmps25
  go_wp2
  go_ret
  exact ⟨by first|rfl|(simp; done)|(simp [*]; done), by repeat (first|exact Drawn0.refl _|apply Drawn0.step)⟩

end Go.Proofs.Ytfoagjdcgipcaaa.X
-- pressed
