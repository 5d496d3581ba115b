/- Walks of Go functions: each proves that the call answers what the Lean function of its name computes, wherever that is told; written by a program of this work out of the translation. -/
import Derived.Test.YtfoagjdcgipcaaaXx0
import Derived.Test.YtfoagjdcgipcaaaXx11
import Derived.Test.YtfoagjdcgipcaaaXx12
import Derived.Test.YtfoagjdcgipcaaaJa
import Derived.Test.YtfoagjdcgipcaaaJt
import Derived.Test.YtfoagjdcgipcaaaJu
import Derived.Test.YtfoagjdcgipcaaaJv
import Derived.Test.YtfoagjdcgipcaaaJw
import Derived.Test.YtfoagjdcgipcaaaJx
import Derived.Test.YtfoagjdcgipcaaaJq
import Derived.Test.YtfoagjdcgipcaaaJr
import Derived.Test.YtfoagjdcgipcaaaJy
import Derived.Test.YtfoagjdcgipcaaaKa
import Derived.Test.YtfoagjdcgipcaaaKb
import Derived.Test.YtfoagjdcgipcaaaKc
namespace Go.Proofs.Ytfoagjdcgipcaaa.X
open Go.RowKit Go.Proofs.YtfoagjdcgipcaaaW.PrintWords Go.Proofs.YtfoagjdcgipcaaaW.PrintLast

set_option linter.unusedVariables false
set_option linter.unusedSimpArgs false

/-! ### curtilageref05_Drop: function 19 -/
mutual
def curtilageref05_Drop.j0 : Nat → List (List (S57)) → List Int → Option ((List (List (S57))) × List Int × Int)
 | 0, _, _ => none
 | k + 1, x315000, x315001 => curtilageref05_Drop.l0 k (x315001.length : Int) x315000 x315001
def curtilageref05_Drop.l0 : Nat → Int → List (List (S57)) → List Int → Option ((List (List (S57))) × List Int × Int)
 | 0, _, _, _ => none
 | k + 1, x7, x315000, x315001 => if x7 > 0 then (if 0 ≤ (wrap64 (x7 - 1)) then (if (wrap64 (x7 - 1)) < (x315001.length : Int) then (if (rd x315001 (wrap64 (x7 - 1))) = 0 then (curtilageref05_Drop.l0 k (wrap64 (x7 - 1)) x315000 x315001) else (if 0 ≤ x7 then (if x7 ≤ (x315000.length : Int) then (if x7 ≤ (x315001.length : Int) then (some ((x315000.take (x7 : Int).toNat), (x315001.take (x7 : Int).toNat), 0)) else (none)) else (none)) else (none))) else (none)) else (none)) else (if 0 ≤ x7 then (if x7 ≤ (x315000.length : Int) then (if x7 ≤ (x315001.length : Int) then (some ((x315000.take (x7 : Int).toNat), (x315001.take (x7 : Int).toNat), 0)) else (none)) else (none)) else (none))
end
def curtilageref05_Drop.f (k : Nat) (l0_0 : List (List (S57))) (l0_1 : List Int) (a1 : Int) : Option ((List (List (S57))) × List Int × Int) := (curtilageref05_there.f l0_0 l0_1 a1).bind fun t307 => (if t307 = true then ((curtilageref05_copied.f l0_0 l0_1).bind fun bt308 => (if 0 ≤ a1 then (if a1 < (bt308.2.length : Int) then ((some (bt308.2.set (a1 : Int).toNat (wrap64 ((rd bt308.2 a1) - 1)) : List Int)).bind fun y316 => (if (rd y316 a1) = 0 then (if a1 < (bt308.1.length : Int) then (curtilageref05_Drop.j0 k (bt308.1.set (a1 : Int).toNat ([] : List (S57))) y316) else (none)) else (curtilageref05_Drop.j0 k bt308.1 y316))) else (none)) else (none))) else (some (l0_0, l0_1, 1)))
set_option maxHeartbeats 8000000 in
set_option maxRecDepth 100000 in
theorem curtilageref05_Drop.calls (k : Nat) (P0_0_ : Nat → Prop) (A0_0 : Option Addr) (c0_0 : Nat) (l0_0 : List (List (S57))) (P0_1_ : Nat → Prop) (A0_1 : Option Addr) (c0_1 : Nat) (l0_1 : List Int) (a1 : Int) (r1 : List (List (S57))) (r2 : List Int) (r3 : Int) (w : World) (hs0_0 : Kd.V (Kd.slice 57 k57) 29 w w.heap.size (fun k_ => P0_0_ k_) (.slice A0_0 l0_0.length c0_0) l0_0) (hs0_1 : Kd.V (Kd.int .i64) 3 w w.heap.size (fun k_ => P0_1_ k_) (.slice A0_1 l0_1.length c0_1) l0_1) (h : curtilageref05_Drop.f k l0_0 l0_1 a1 = some (r1, r2, r3)) :
  Calls Try.prog 19 #[.agg #[.slice A0_0 l0_0.length c0_0, .slice A0_1 l0_1.length c0_1], .int .i64 a1] w fun e w' => ∃ v0_ v1_ : Value, e = .returned (.tuple #[.agg #[v0_, v1_], .int .i64 r3]) ∧ Kd.V (Kd.slice 57 k57) 29 w' w.heap.size (fun k_ => ((P0_0_ k_ ∨ P0_1_ k_) ∨ w.heap.size ≤ k_)) v0_ r1 ∧ Kd.V (Kd.int .i64) 3 w' w.heap.size (fun k_ => ((P0_0_ k_ ∨ P0_1_ k_) ∨ w.heap.size ≤ k_)) v1_ r2 ∧ Below w.heap.size w w' := by
 have hu27 := Try.underlying27
 have HO0_0 := Q4 (show Kd.V (Kd.slice 57 k57) 29 w w.heap.size (fun k_ => ((P0_0_ k_ ∨ P0_1_ k_) ∨ w.heap.size ≤ k_)) (.slice A0_0 l0_0.length c0_0) l0_0 from Kd.V_mono hs0_0 (fun k_ hk => .inl (.inl hk)))
 have HO0_1 := Q4 (show Kd.V (Kd.int .i64) 3 w w.heap.size (fun k_ => ((P0_0_ k_ ∨ P0_1_ k_) ∨ w.heap.size ≤ k_)) (.slice A0_1 l0_1.length c0_1) l0_1 from Kd.V_mono hs0_1 (fun k_ hk => .inl (.inr hk)))
 have HB := Q4 (Below.refl w.heap.size w)
 have H : ((curtilageref05_there.f l0_0 l0_1 a1).bind fun t307 => (if t307 = true then ((curtilageref05_copied.f l0_0 l0_1).bind fun bt308 => (if 0 ≤ a1 then (if a1 < (bt308.2.length : Int) then ((some (bt308.2.set (a1 : Int).toNat (wrap64 ((rd bt308.2 a1) - 1)) : List Int)).bind fun y316 => (if (rd y316 a1) = 0 then (if a1 < (bt308.1.length : Int) then (curtilageref05_Drop.j0 k (bt308.1.set (a1 : Int).toNat ([] : List (S57))) y316) else (none)) else (curtilageref05_Drop.j0 k bt308.1 y316))) else (none)) else (none))) else (some (l0_0, l0_1, 1)))) = some (r1, r2, r3) := h
 clear h
 replace H := Option.bind_eq_some_iff.mp H
 obtain ⟨t307, A30, H⟩ := H
 replace H : (if t307 = true then ((curtilageref05_copied.f l0_0 l0_1).bind fun bt308 => (if 0 ≤ a1 then (if a1 < (bt308.2.length : Int) then ((some (bt308.2.set (a1 : Int).toNat (wrap64 ((rd bt308.2 a1) - 1)) : List Int)).bind fun y316 => (if (rd y316 a1) = 0 then (if a1 < (bt308.1.length : Int) then (curtilageref05_Drop.j0 k (bt308.1.set (a1 : Int).toNat ([] : List (S57))) y316) else (none)) else (curtilageref05_Drop.j0 k bt308.1 y316))) else (none)) else (none))) else (some (l0_0, l0_1, 1))) = some (r1, r2, r3) := H
 have A3 := Q4 A30
 clear A30
 by_cases c4 : t307 = true
 ·subst c4
  have H1 : ((curtilageref05_copied.f l0_0 l0_1).bind fun bt308 => (if 0 ≤ a1 then (if a1 < (bt308.2.length : Int) then ((some (bt308.2.set (a1 : Int).toNat (wrap64 ((rd bt308.2 a1) - 1)) : List Int)).bind fun y316 => (if (rd y316 a1) = 0 then (if a1 < (bt308.1.length : Int) then (curtilageref05_Drop.j0 k (bt308.1.set (a1 : Int).toNat ([] : List (S57))) y316) else (none)) else (curtilageref05_Drop.j0 k bt308.1 y316))) else (none)) else (none))) = some (r1, r2, r3) := by rw [if_pos rfl] at H; exact H
  clear H
  have H := H1
  clear H1
  replace H := Option.bind_eq_some_iff.mp H
  obtain ⟨⟨t308, t311⟩, A50, H⟩ := H
  replace H : (if 0 ≤ a1 then (if a1 < (t311.length : Int) then ((some (t311.set (a1 : Int).toNat (wrap64 ((rd t311 a1) - 1)) : List Int)).bind fun y316 => (if (rd y316 a1) = 0 then (if a1 < (t308.length : Int) then (curtilageref05_Drop.j0 k (t308.set (a1 : Int).toNat ([] : List (S57))) y316) else (none)) else (curtilageref05_Drop.j0 k t308 y316))) else (none)) else (none)) = some (r1, r2, r3) := H
  have A5 := Q4 A50
  clear A50
  by_cases c6 : 0 ≤ a1
  ·rw [if_pos c6] at H
   have c6b0 : decide (0 ≤ a1) = true := decide_eq_true c6
   clear c6
   by_cases c7 : a1 < (t311.length : Int)
   ·rw [if_pos c7] at H
    have c7b0 : decide (a1 < (t311.length : Int)) = true := decide_eq_true c7
    clear c7
    obtain ⟨y316, hy316⟩ : ∃ y_ : List Int, y_ = (t311.set (a1 : Int).toNat (wrap64 ((rd t311 a1) - 1))) := ⟨_, rfl⟩
    replace H : (if (rd y316 a1) = 0 then (if a1 < (t308.length : Int) then (curtilageref05_Drop.j0 k (t308.set (a1 : Int).toNat ([] : List (S57))) y316) else (none)) else (curtilageref05_Drop.j0 k t308 y316)) = some (r1, r2, r3) := by first|(rw [hy316]; with_reducible exact H)|(have H2_ := (Option.bind_some _ _).symm.trans H; rw [hy316]; with_reducible exact H2_)|(have H2_ := (Option.bind_some _ _).symm.trans H; with_reducible exact H2_) | with_reducible exact H|(rw [hy316]; exact H)|exact H
    have Ny316 := Q4 hy316
    clear hy316
    have HC9 := Q4 H
    clear H
    go_enter Try.func19, Try.ntmps19
    go_upto_if 27 with (first|((with_reducible refine gate_dst (N := 2) rfl ?_); refine box_event ?hg (N := 2) ?hd (cs := #[.slice A0_0 l0_0.length c0_0, .slice A0_1 l0_1.length c0_1]) (t := 27) ?hr ?_; (case hd => rfl); (case hg => rfl); (case hr => first|(go_simp; done)|(go_simp; rfl)); intro gb305 hg w10 hbox hb; have n0_ := Q4 (Kd.V_below (Kd.V_elderB (by (with_reducible repeat (first|apply Kd.V_alloc|apply Kd.V_drewN|apply Kd.V_drew)); exact HO0_0.out) gb305 (Nat.le_of_eq hg.symm)) hb); have n1_ := Q4 (Kd.V_below (Kd.V_elderB (by (with_reducible repeat (first|apply Kd.V_alloc|apply Kd.V_drewN|apply Kd.V_drew)); exact HO0_1.out) gb305 (Nat.le_of_eq hg.symm)) hb); have n2_ := Q4 (below_step (by repeat (first|(with_reducible first|exact HB.out|apply Q8|apply Q5|apply Q9)|exact HB.out)) hb); have n3_ := Q4 (hbox); have n4_ := Q4 ((by rw [hg]; exact (below_size (by repeat (first|(with_reducible first|exact HB.out|apply Q8|apply Q5|apply Q9)|exact HB.out))) : w.heap.size ≤ gb305)); have n5_ := Q4 ((by rw [hg]; exact (below_size (by repeat (first|(with_reducible first|exact HB.out|apply Q8|apply Q5|apply Q9)|exact HB.out))) : w.heap.size ≤ gb305)); clear HO0_0; clear HO0_1; clear HB; have HO0_0 := n0_; have HO0_1 := n1_; have HB := n2_; have BK305 := n3_; have GW305 := n4_; have GE305 := n5_; clear n0_ n1_ n2_ n3_ n4_ n5_; clear hb hbox hg)|((with_reducible refine gate_dst (N := 4) rfl ?_); refine box_event ?hg (N := 4) ?hd (cs := #[.slice none 0 0, .slice none 0 0]) (t := 27) ?hr ?_; (case hd => rfl); (case hg => rfl); (case hr => first|(go_simp; done)|(go_simp; rfl)); intro gb306 hg w11 hbox hb; have n0_ := Q4 (Kd.V_below (Kd.V_elderB (by (with_reducible repeat (first|apply Kd.V_alloc|apply Kd.V_drewN|apply Kd.V_drew)); exact HO0_0.out) gb306 (Nat.le_of_eq hg.symm)) hb); have n1_ := Q4 (Kd.V_below (Kd.V_elderB (by (with_reducible repeat (first|apply Kd.V_alloc|apply Kd.V_drewN|apply Kd.V_drew)); exact HO0_1.out) gb306 (Nat.le_of_eq hg.symm)) hb); have n2_ := Q4 (blk_below (g := gb305) (o := .cells #[.slice A0_0 l0_0.length c0_0, .slice A0_1 l0_1.length c0_1] 27 (0, 0)) (by (with_reducible repeat (first|refine Qa ?_ _|refine Qb ?_|refine Q7 ?_ _)); exact BK305.out) hb); have n3_ := Q4 (below_step (by repeat (first|(with_reducible first|exact HB.out|apply Q8|apply Q5|apply Q9|refine Q6 ?_ GE305.out)|exact HB.out)) hb); have n4_ := Q4 (hbox); have n5_ := Q4 ((by rw [hg]; exact (below_size (by repeat (first|(with_reducible first|exact HB.out|apply Q8|apply Q5|apply Q9|refine Q6 ?_ GE305.out)|exact HB.out))) : w.heap.size ≤ gb306)); have n6_ := Q4 ((by rw [hg]; exact (below_size (by repeat (first|(with_reducible first|exact HB.out|apply Q8|apply Q5|apply Q9|refine Q6 ?_ GE305.out)|exact HB.out))) : w.heap.size ≤ gb306)); have n7_ := Q4 ((by rw [hg]; exact Nat.ne_of_lt (blk_lt (g := gb305) (o := .cells #[.slice A0_0 l0_0.length c0_0, .slice A0_1 l0_1.length c0_1] 27 (0, 0)) (by (with_reducible repeat (first|refine Qa ?_ _|refine Qb ?_|refine Q7 ?_ _)); exact BK305.out)) : gb305 ≠ gb306)); have n8_ := Q4 ((by rw [hg]; exact Nat.ne_of_gt (blk_lt (g := gb305) (o := .cells #[.slice A0_0 l0_0.length c0_0, .slice A0_1 l0_1.length c0_1] 27 (0, 0)) (by (with_reducible repeat (first|refine Qa ?_ _|refine Qb ?_|refine Q7 ?_ _)); exact BK305.out)) : gb306 ≠ gb305)); clear HO0_0; clear HO0_1; clear BK305; clear HB; have HO0_0 := n0_; have HO0_1 := n1_; have BK305 := n2_; have HB := n3_; have BK306 := n4_; have GW306 := n5_; have GE306 := n6_; have NB305_306 := n7_; have NB306_305 := n8_; clear n0_ n1_ n2_ n3_ n4_ n5_ n6_ n7_ n8_; clear hb hbox hg; have hnb12 := NB305_306.out; have hnc12 := NB306_305.out; have hcz13_0 : w11.cell? ⟨gb305, 0, none⟩ = some (.slice A0_0 l0_0.length c0_0) := (blk_cell BK305.out 0).trans rfl; have hcz13_1 : w11.cell? ⟨gb305, 1, none⟩ = some (.slice A0_1 l0_1.length c0_1) := (blk_cell BK305.out 1).trans rfl; have hfz13_0 := blk_frozen BK305.out 0; have hfz13_1 := blk_frozen BK305.out 1)|((with_reducible refine gate_callee (f := 36) rfl ?_); refine goesL_ (some 10) rfl rfl Try.func36 (by kernel_rfl) rfl #[.agg #[.slice A0_0 l0_0.length c0_0, .slice A0_1 l0_1.length c0_1], .int .i64 a1] rfl (by (try simp only [List.map_toArray, List.map_cons, List.map_nil]); first | done|rfl|(simp only [List.length_drop, List.length_take]; rfl)) ?_; (with_reducible refine (curtilageref05_there.calls _ _ l0_0 _ _ l0_1 a1 true _ ?side1 ?side2 ?side3 ?side4 A3.out).mono ?_); (case side1 => repeat (first|exact (Kd.V_reads' HO0_0.out).2.2|(with_reducible refine Kd.C_alloc ?_ _)|(with_reducible refine Kd.C_drewN ?_ _)|(with_reducible refine Kd.C_drew ?_))); (case side2 => exact (Kd.V_reads' HO0_0.out).2.1); (case side3 => repeat (first|exact (Kd.V_reads' HO0_1.out).2.2|(with_reducible refine Kd.C_alloc ?_ _)|(with_reducible refine Kd.C_drewN ?_ _)|(with_reducible refine Kd.C_drew ?_))); (case side4 => exact (Kd.V_reads' HO0_1.out).2.1); rintro e w14 ⟨rfl, hb⟩; refine ⟨_, rfl, ?_⟩; have n0_ := Q4 (Kd.V_below (by (with_reducible repeat (first|apply Kd.V_alloc|apply Kd.V_drewN|apply Kd.V_drew)); exact HO0_0.out) hb); have n1_ := Q4 (Kd.V_below (by (with_reducible repeat (first|apply Kd.V_alloc|apply Kd.V_drewN|apply Kd.V_drew)); exact HO0_1.out) hb); have n2_ := Q4 (blk_below (g := gb305) (o := .cells #[.slice A0_0 l0_0.length c0_0, .slice A0_1 l0_1.length c0_1] 27 (0, 0)) (by (with_reducible repeat (first|refine Qa ?_ _|refine Qb ?_|refine Q7 ?_ _)); exact BK305.out) hb); have n3_ := Q4 (blk_below (g := gb306) (o := .cells #[.slice none 0 0, .slice none 0 0] 27 (0, 0)) (by (with_reducible repeat (first|refine Qa ?_ _|refine Qb ?_|refine Q7 ?_ _)); exact BK306.out) hb); have n4_ := Q4 (below_step (by repeat (first|(with_reducible first|exact HB.out|apply Q8|apply Q5|apply Q9|refine Q6 ?_ GE305.out|refine Q6 ?_ GE306.out)|exact HB.out)) hb); clear HO0_0; clear HO0_1; clear BK305; clear BK306; clear HB; have HO0_0 := n0_; have HO0_1 := n1_; have BK305 := n2_; have BK306 := n3_; have HB := n4_; clear n0_ n1_ n2_ n3_ n4_;(try clear hb);(try clear hb2);(try clear hk);(try clear hi); have hcz15_0 : w14.cell? ⟨gb305, 0, none⟩ = some (.slice A0_0 l0_0.length c0_0) := (blk_cell BK305.out 0).trans rfl; have hcz15_1 : w14.cell? ⟨gb305, 1, none⟩ = some (.slice A0_1 l0_1.length c0_1) := (blk_cell BK305.out 1).trans rfl; have hfz15_0 := blk_frozen BK305.out 0; have hfz15_1 := blk_frozen BK305.out 1)|((with_reducible refine gate_callee (f := 35) rfl ?_); refine goesL_ (some 14) rfl rfl Try.func35 (by kernel_rfl) rfl #[.agg #[.slice A0_0 l0_0.length c0_0, .slice A0_1 l0_1.length c0_1]] rfl (by (try simp only [List.map_toArray, List.map_cons, List.map_nil]); first | done|rfl|(simp only [List.length_drop, List.length_take]; rfl)) ?_; (with_reducible refine (curtilageref05_copied.calls (fun k_ => ((((P0_0_ k_ ∨ P0_1_ k_) ∨ w.heap.size ≤ k_) ∧ k_ ≠ gb305) ∧ k_ ≠ gb306)) _ _ l0_0 _ _ l0_1 t308 t311 _ ?side1 ?side2 ?side3 A5.out).mono ?_); (case side1 => exact HO0_0.out); (case side2 => repeat (first|exact (Kd.V_reads' HO0_1.out).2.2|(with_reducible refine Kd.C_alloc ?_ _)|(with_reducible refine Kd.C_drewN ?_ _)|(with_reducible refine Kd.C_drew ?_))); (case side3 => exact (Kd.V_reads' HO0_1.out).2.1); rintro e w16 ⟨v309, v312, rfl, ho0, ho1, hb⟩; refine ⟨_, rfl, ?_⟩; have n0_ := Q4 (Kd.V_mono (Kd.V_told (Kd.V_told (Kd.V_old (by (with_reducible repeat (first|apply Kd.V_alloc|apply Kd.V_drewN|apply Kd.V_drew)); exact HO0_0.out) hb) (Kd.N_base ho0)) (Kd.R_base ho1)) (fun _ h_ => h_.1)); have n1_ := Q4 (Kd.V_mono (Kd.V_told (Kd.V_told (Kd.V_old (by (with_reducible repeat (first|apply Kd.V_alloc|apply Kd.V_drewN|apply Kd.V_drew)); exact HO0_1.out) hb) (Kd.N_base ho0)) (Kd.R_base ho1)) (fun _ h_ => h_.1)); have n2_ := Q4 (Kd.N_lower (Kd.N_mono (ok' := fun k_ => ((P0_0_ k_ ∨ P0_1_ k_) ∨ w.heap.size ≤ k_) ∧ some k_ ≠ (v312 : Value).ownBlock ∧ k_ ≠ gb305 ∧ k_ ≠ gb306) ho0 (fun k_ hk_ => ⟨Or.elim hk_.1 (fun hs_ => hs_.1.1) (fun hn_ => (.inr (Nat.le_trans (below_size (by repeat (first|(with_reducible first|exact HB.out|apply Q8|apply Q5|apply Q9|refine Q6 ?_ GE305.out|refine Q6 ?_ GE306.out)|exact HB.out))) hn_))), hk_.2, Or.elim hk_.1 (fun hs_ => hs_.1.2) (fun hn_ => (Kd.freshB (g := gb305) (o := .cells #[.slice A0_0 l0_0.length c0_0, .slice A0_1 l0_1.length c0_1] 27 (0, 0)) (by (with_reducible repeat (first|refine Qa ?_ _|refine Qb ?_|refine Q7 ?_ _)); exact BK305.out) k_ hn_)), Or.elim hk_.1 (fun hs_ => hs_.2) (fun hn_ => (Kd.freshB (g := gb306) (o := .cells #[.slice none 0 0, .slice none 0 0] 27 (0, 0)) (by (with_reducible repeat (first|refine Qa ?_ _|refine Qb ?_|refine Q7 ?_ _)); exact BK306.out) k_ hn_))⟩)) (below_size (by repeat (first|(with_reducible first|exact HB.out|apply Q8|apply Q5|apply Q9|refine Q6 ?_ GE305.out|refine Q6 ?_ GE306.out)|exact HB.out)))); have n3_ := Q4 (Kd.R_lower (Kd.R_newM (M := fun k_ => (w.heap.size ≤ k_)) (Kd.R_mono (ok' := fun k_ => True) ho1 (fun _ hk_ => trivial)) (below_size (by repeat (first|(with_reducible first|exact HB.out|apply Q8|apply Q5|apply Q9|refine Q6 ?_ GE305.out|refine Q6 ?_ GE306.out)|exact HB.out))) (fun k_ h_ => h_)) (below_size (by repeat (first|(with_reducible first|exact HB.out|apply Q8|apply Q5|apply Q9|refine Q6 ?_ GE305.out|refine Q6 ?_ GE306.out)|exact HB.out)))); have n4_ := Q4 (blk_below (g := gb305) (o := .cells #[.slice A0_0 l0_0.length c0_0, .slice A0_1 l0_1.length c0_1] 27 (0, 0)) (by (with_reducible repeat (first|refine Qa ?_ _|refine Qb ?_|refine Q7 ?_ _)); exact BK305.out) hb); have n5_ := Q4 (blk_below (g := gb306) (o := .cells #[.slice none 0 0, .slice none 0 0] 27 (0, 0)) (by (with_reducible repeat (first|refine Qa ?_ _|refine Qb ?_|refine Q7 ?_ _)); exact BK306.out) hb); have n6_ := Q4 (below_step (by repeat (first|(with_reducible first|exact HB.out|apply Q8|apply Q5|apply Q9|refine Q6 ?_ GE305.out|refine Q6 ?_ GE306.out)|exact HB.out)) hb); clear HO0_0; clear HO0_1; clear BK305; clear BK306; clear HB; have HO0_0 := n0_; have HO0_1 := n1_; have HO310 := n2_; have HO313 := n3_; have BK305 := n4_; have BK306 := n5_; have HB := n6_; clear n0_ n1_ n2_ n3_ n4_ n5_ n6_;(try clear hb);(try clear hb2);(try clear hk);(try clear hi);(try clear ho0);(try clear ho1))|((with_reducible refine gate_dst (N := 6) rfl ?_); refine box_event ?hg (N := 6) ?hd (cs := #[.slice none 0 0, .slice none 0 0]) (t := 27) ?hr ?_; (case hd => rfl); (case hg => rfl); (case hr => first|(go_simp; done)|(go_simp; rfl)); intro gb314 hg w17 hbox hb; have n0_ := Q4 (Kd.V_below (Kd.V_elderB (by (with_reducible repeat (first|apply Kd.V_alloc|apply Kd.V_drewN|apply Kd.V_drew)); exact HO0_0.out) gb314 (Nat.le_of_eq hg.symm)) hb); have n1_ := Q4 (Kd.V_below (Kd.V_elderB (by (with_reducible repeat (first|apply Kd.V_alloc|apply Kd.V_drewN|apply Kd.V_drew)); exact HO0_1.out) gb314 (Nat.le_of_eq hg.symm)) hb); have n2_ := Q4 (Kd.N_below (Kd.N_elderB (by (with_reducible repeat (first|apply Kd.N_alloc|apply Kd.N_drewN|apply Kd.N_drew)); exact HO310.out) gb314 (Nat.le_of_eq hg.symm)) hb); have n3_ := Q4 (Kd.R_below (by (with_reducible repeat (first|apply Kd.R_alloc|apply Kd.R_drewN|apply Kd.R_drew)); exact HO313.out) hb); have n4_ := Q4 (blk_below (g := gb305) (o := .cells #[.slice A0_0 l0_0.length c0_0, .slice A0_1 l0_1.length c0_1] 27 (0, 0)) (by (with_reducible repeat (first|refine Qa ?_ _|refine Qb ?_|refine Q7 ?_ _)); exact BK305.out) hb); have n5_ := Q4 (blk_below (g := gb306) (o := .cells #[.slice none 0 0, .slice none 0 0] 27 (0, 0)) (by (with_reducible repeat (first|refine Qa ?_ _|refine Qb ?_|refine Q7 ?_ _)); exact BK306.out) hb); have n6_ := Q4 (below_step (by repeat (first|(with_reducible first|exact HB.out|apply Q8|apply Q5|apply Q9|refine Q6 ?_ GE305.out|refine Q6 ?_ GE306.out)|exact HB.out)) hb); have n7_ := Q4 (hbox); have n8_ := Q4 ((by rw [hg]; exact (below_size (by repeat (first|(with_reducible first|exact HB.out|apply Q8|apply Q5|apply Q9|refine Q6 ?_ GE305.out|refine Q6 ?_ GE306.out)|exact HB.out))) : w.heap.size ≤ gb314)); have n9_ := Q4 ((by rw [hg]; exact (below_size (by repeat (first|(with_reducible first|exact HB.out|apply Q8|apply Q5|apply Q9|refine Q6 ?_ GE305.out|refine Q6 ?_ GE306.out)|exact HB.out))) : w.heap.size ≤ gb314)); have n10_ := Q4 ((by rw [hg]; exact Nat.ne_of_lt (blk_lt (g := gb305) (o := .cells #[.slice A0_0 l0_0.length c0_0, .slice A0_1 l0_1.length c0_1] 27 (0, 0)) (by (with_reducible repeat (first|refine Qa ?_ _|refine Qb ?_|refine Q7 ?_ _)); exact BK305.out)) : gb305 ≠ gb314)); have n11_ := Q4 ((by rw [hg]; exact Nat.ne_of_gt (blk_lt (g := gb305) (o := .cells #[.slice A0_0 l0_0.length c0_0, .slice A0_1 l0_1.length c0_1] 27 (0, 0)) (by (with_reducible repeat (first|refine Qa ?_ _|refine Qb ?_|refine Q7 ?_ _)); exact BK305.out)) : gb314 ≠ gb305)); have n12_ := Q4 ((by rw [hg]; exact Nat.ne_of_lt (blk_lt (g := gb306) (o := .cells #[.slice none 0 0, .slice none 0 0] 27 (0, 0)) (by (with_reducible repeat (first|refine Qa ?_ _|refine Qb ?_|refine Q7 ?_ _)); exact BK306.out)) : gb306 ≠ gb314)); have n13_ := Q4 ((by rw [hg]; exact Nat.ne_of_gt (blk_lt (g := gb306) (o := .cells #[.slice none 0 0, .slice none 0 0] 27 (0, 0)) (by (with_reducible repeat (first|refine Qa ?_ _|refine Qb ?_|refine Q7 ?_ _)); exact BK306.out)) : gb314 ≠ gb306)); clear HO0_0; clear HO0_1; clear HO310; clear HO313; clear BK305; clear BK306; clear HB; have HO0_0 := n0_; have HO0_1 := n1_; have HO310 := n2_; have HO313 := n3_; have BK305 := n4_; have BK306 := n5_; have HB := n6_; have BK314 := n7_; have GW314 := n8_; have GE314 := n9_; have NB305_314 := n10_; have NB314_305 := n11_; have NB306_314 := n12_; have NB314_306 := n13_; clear n0_ n1_ n2_ n3_ n4_ n5_ n6_ n7_ n8_ n9_ n10_ n11_ n12_ n13_; clear hb hbox hg; obtain ⟨Ao18, co18, eo18⟩ := Kd.N_slice HO310.out; subst eo18; have hnb19 := NB314_305.out; have hnc19 := NB305_314.out; have hnb20 := NB314_306.out; have hnc20 := NB306_314.out; have hcz21_0 : w17.cell? ⟨gb314, 0, none⟩ = some (.slice none 0 0) := (blk_cell BK314.out 0).trans rfl; have hcz21_1 : w17.cell? ⟨gb314, 1, none⟩ = some (.slice none 0 0) := (blk_cell BK314.out 1).trans rfl; have hfz21_0 := blk_frozen BK314.out 0; have hfz21_1 := blk_frozen BK314.out 1; obtain ⟨Ao22, co22, eo22⟩ := Kd.R_slice HO313.out; subst eo22)|((with_reducible refine gate_store (t := 27) (p := 6) rfl ?_); refine store_event (t := 27) (p := 6) (v := ?vo_w23) (w1 := ((w17.setCell ⟨gb314, 0, none⟩ (.slice Ao18 t308.length co18)).setCell ⟨gb314, 1, none⟩ (.slice Ao22 t311.length co22))) ?hg ?ho ?hn ?hr ?_; (case ho => rfl); (case hg => rfl); (case hn => rfl); (case hr => first|(go_simp; done)|(go_simp; rfl)); intro w23 hw; have n0_ : Aside0 (Kd.V (Kd.slice 57 k57) 29 w23 w.heap.size (fun k_ => ((P0_0_ k_ ∨ P0_1_ k_) ∨ w.heap.size ≤ k_) ∧ some k_ ≠ (.slice Ao18 t308.length co18 : Value).ownBlock ∧ some k_ ≠ (.slice Ao22 t311.length co22 : Value).ownBlock ∧ k_ ≠ gb305 ∧ k_ ≠ gb306 ∧ k_ ≠ gb314) (.slice A0_0 l0_0.length c0_0) l0_0) := ⟨(by rw [hw]; exact (by (with_reducible repeat (first|apply Kd.V_alloc|apply Kd.V_drewN|apply Kd.V_drew)); exact Kd.V_mono (Kd.V_far (p := ⟨gb314, 1, none⟩) (Kd.V_far (p := ⟨gb314, 0, none⟩) (Kd.V_mono HO0_0.out (fun k_ hk => (⟨hk, hk.2⟩ : _ ∧ k_ ≠ gb314))) (fun _ hk => hk.2) (.slice Ao18 t308.length co18)) (fun _ hk => hk.2) (.slice Ao22 t311.length co22)) (fun _ hk => ⟨hk.1.1.1.1.1.1, ⟨hk.1.1.1.2, ⟨hk.1.1.2, ⟨hk.1.1.1.1.1.2, ⟨hk.1.1.1.1.2, hk.1.2⟩⟩⟩⟩⟩)))⟩; have n1_ : Aside0 (Kd.V (Kd.int .i64) 3 w23 w.heap.size (fun k_ => ((P0_0_ k_ ∨ P0_1_ k_) ∨ w.heap.size ≤ k_) ∧ some k_ ≠ (.slice Ao18 t308.length co18 : Value).ownBlock ∧ some k_ ≠ (.slice Ao22 t311.length co22 : Value).ownBlock ∧ k_ ≠ gb305 ∧ k_ ≠ gb306 ∧ k_ ≠ gb314) (.slice A0_1 l0_1.length c0_1) l0_1) := ⟨(by rw [hw]; exact (by (with_reducible repeat (first|apply Kd.V_alloc|apply Kd.V_drewN|apply Kd.V_drew)); exact Kd.V_mono (Kd.V_far (p := ⟨gb314, 1, none⟩) (Kd.V_far (p := ⟨gb314, 0, none⟩) (Kd.V_mono HO0_1.out (fun k_ hk => (⟨hk, hk.2⟩ : _ ∧ k_ ≠ gb314))) (fun _ hk => hk.2) (.slice Ao18 t308.length co18)) (fun _ hk => hk.2) (.slice Ao22 t311.length co22)) (fun _ hk => ⟨hk.1.1.1.1.1.1, ⟨hk.1.1.1.2, ⟨hk.1.1.2, ⟨hk.1.1.1.1.1.2, ⟨hk.1.1.1.1.2, hk.1.2⟩⟩⟩⟩⟩)))⟩; have n2_ : Aside0 (Kd.N (Kd.slice 57 k57) 29 w23 w.heap.size (fun k_ => ((P0_0_ k_ ∨ P0_1_ k_) ∨ w.heap.size ≤ k_) ∧ some k_ ≠ (.slice Ao22 t311.length co22 : Value).ownBlock ∧ k_ ≠ gb305 ∧ k_ ≠ gb306 ∧ k_ ≠ gb314) (.slice Ao18 t308.length co18) t308) := ⟨(by rw [hw]; exact (by (with_reducible repeat (first|apply Kd.N_alloc|apply Kd.N_drewN|apply Kd.N_drew)); exact Kd.N_mono (Kd.N_far (p := ⟨gb314, 1, none⟩) (Kd.N_far (p := ⟨gb314, 0, none⟩) (Kd.N_mono HO310.out (fun k_ hk => (⟨hk, hk.2⟩ : _ ∧ k_ ≠ gb314))) (fun _ hk => hk.2) (.slice Ao18 t308.length co18)) (fun _ hk => hk.2) (.slice Ao22 t311.length co22)) (fun _ hk => ⟨hk.1.1.1, ⟨hk.1.1.2.1, ⟨hk.1.1.2.2.1, ⟨hk.1.1.2.2.2, hk.1.2⟩⟩⟩⟩)))⟩; have n3_ : Aside0 (Kd.R (Kd.int .i64) 3 w23 w.heap.size (fun k_ => (w.heap.size ≤ k_)) (.slice Ao22 t311.length co22) t311) := ⟨(by rw [hw]; exact (by (with_reducible repeat (first|apply Kd.R_alloc|apply Kd.R_drewN|apply Kd.R_drew)); exact Kd.R_mono (Kd.R_far (p := ⟨gb314, 1, none⟩) (Kd.R_far (p := ⟨gb314, 0, none⟩) (Kd.R_types HO313.out BK314.out (by decide)) (fun _ hk => hk.2) (.slice Ao18 t308.length co18)) (fun _ hk => hk.2) (.slice Ao22 t311.length co22)) (fun _ hk => hk.1.1)))⟩; have n4_ : Aside0 (w23.heap[gb305]? = some (.cells #[.slice A0_0 l0_0.length c0_0, .slice A0_1 l0_1.length c0_1] 27 (0, 0))) := ⟨(by rw [hw]; exact (by (with_reducible repeat (first|refine Qa ?_ _|refine Qb ?_|refine Q7 ?_ _)); refine blk_far ?_ NB305_314.out _; (with_reducible repeat (first|refine Qa ?_ _|refine Qb ?_|refine Q7 ?_ _)); refine blk_far ?_ NB305_314.out _; (with_reducible repeat (first|refine Qa ?_ _|refine Qb ?_|refine Q7 ?_ _)); exact BK305.out))⟩; have n5_ : Aside0 (w23.heap[gb306]? = some (.cells #[.slice none 0 0, .slice none 0 0] 27 (0, 0))) := ⟨(by rw [hw]; exact (by (with_reducible repeat (first|refine Qa ?_ _|refine Qb ?_|refine Q7 ?_ _)); refine blk_far ?_ NB306_314.out _; (with_reducible repeat (first|refine Qa ?_ _|refine Qb ?_|refine Q7 ?_ _)); refine blk_far ?_ NB306_314.out _; (with_reducible repeat (first|refine Qa ?_ _|refine Qb ?_|refine Q7 ?_ _)); exact BK306.out))⟩; have n6_ : Aside0 (w23.heap[gb314]? = some (.cells #[.slice Ao18 t308.length co18, .slice Ao22 t311.length co22] 27 (0, 0))) := ⟨(by rw [hw]; exact (by (with_reducible repeat (first|refine Qa ?_ _|refine Qb ?_|refine Q7 ?_ _)); refine blk_put (cs := #[.slice Ao18 t308.length co18, .slice none 0 0]) ?_ 1 _ rfl; (with_reducible repeat (first|refine Qa ?_ _|refine Qb ?_|refine Q7 ?_ _)); refine blk_put (cs := #[.slice none 0 0, .slice none 0 0]) ?_ 0 _ rfl; (with_reducible repeat (first|refine Qa ?_ _|refine Qb ?_|refine Q7 ?_ _)); exact BK314.out))⟩; have n7_ : Aside0 (Below w.heap.size w w23) := ⟨(by rw [hw]; exact (by repeat (first|(with_reducible first|exact HB.out|apply Q8|apply Q5|apply Q9|refine Q6 ?_ GE305.out|refine Q6 ?_ GE306.out|refine Q6 ?_ GE314.out)|exact HB.out)))⟩; clear hw; clear HO0_0; clear HO0_1; clear HO310; clear HO313; clear BK305; clear BK306; clear BK314; clear HB; have HO0_0 := n0_; have HO0_1 := n1_; have HO310 := n2_; have HO313 := n3_; have BK305 := n4_; have BK306 := n5_; have BK314 := n6_; have HB := n7_; clear n0_ n1_ n2_ n3_ n4_ n5_ n6_ n7_; have hcz24_0 : w23.cell? ⟨gb314, 0, none⟩ = some (.slice Ao18 t308.length co18) := (blk_cell BK314.out 0).trans rfl; have hcz24_1 : w23.cell? ⟨gb314, 1, none⟩ = some (.slice Ao22 t311.length co22) := (blk_cell BK314.out 1).trans rfl; have hfz24_0 := blk_frozen BK314.out 0; have hfz24_1 := blk_frozen BK314.out 1; have p315 : 0 ≤ (a1 : Int) := Qc (by first|(with_reducible assumption)|assumption); have q315 : a1 < (t311.length : Int) := Qc (by first|(with_reducible assumption)|assumption); obtain ⟨ad315, e315, hx315_0⟩ := Kd.at_int (Kd.R_reads' HO313.out).2.2 a1 p315 q315; cases e315; replace p315 := eq_true p315; replace q315 := eq_true q315; have p8 : 0 ≤ (a1 : Int) := Qc (by first|(with_reducible assumption)|assumption); have q8 : (a1 : Int) < ((t311.length : Int) : Int) := Qc (by first|(with_reducible assumption)|assumption); obtain ⟨go8, co8, eo8, gb8, gl8, cl8, HG8⟩ := Kd.R_form HO313.out (by omega); (first | cases eo8|(injection eo8 with ea_ en_ ec_; (first | subst ea_|(injection ea_ with ea_; subst ea_)); subst ec_; clear en_)); have GB8 := Q4 gb8; have GG8 := Q4 HG8; clear gb8 gl8 HG8; (first | simp only [add_plain] at hx315_0|skip); obtain ⟨hx8_0, hf8_0⟩ := Kd.R_celln 0 HO313.out (a1 : Int) p8 q8; replace p8 := eq_true p8; replace q8 := eq_true q8; obtain ⟨hy25_, hz25_⟩ := Kd.R_celln 0 HO313.out (a1 : Int) (Qc (by first|(with_reducible assumption)|assumption)) (Qc (by first|(with_reducible assumption)|assumption)); have HP25 := Kd.R_putg HO313.out (a1 : Int) (wrap64 ((rd t311 a1) - 1)))|((with_reducible refine gate_store (t := 3) (p := 21) rfl ?_); refine store_event (t := 3) (p := 21) (v := ?vo_w26) (w1 := (w23.setCell ⟨go8, (a1 : Int).toNat, none⟩ (.int .i64 (wrap64 ((rd t311 a1) - 1))))) ?hg ?ho ?hn ?hr ?_; (case ho => rfl); (case hg => rfl); (case hn => rfl); (case hr => first|(go_simp; done)|(go_simp; rfl)); intro w26 hw; have hg : w23.grownBy w26 (some go8) := (by rw [hw]; exact HP25.2); have hp_ : Kd.R (Kd.int .i64) 3 w26 w.heap.size (fun k_ => (w.heap.size ≤ k_)) (.slice (some ⟨go8, 0, none⟩) t311.length co22) y316 := (by rw [hw, Ny316.out]; exact HP25.1); clear HP25; have n0_ := Q4 (Kd.V_afterv (v := (.slice (some ⟨go8, 0, none⟩) t311.length co22)) (v1 := (.slice (some ⟨go8, 0, none⟩) t311.length co22)) (ok := (fun k_ => ((P0_0_ k_ ∨ P0_1_ k_) ∨ w.heap.size ≤ k_) ∧ some k_ ≠ (.slice Ao18 t308.length co18 : Value).ownBlock ∧ k_ ≠ gb305 ∧ k_ ≠ gb306 ∧ k_ ≠ gb314)) (by (with_reducible repeat (first|apply Kd.V_alloc|apply Kd.V_drewN|apply Kd.V_drew)); exact Kd.V_mono HO0_0.out (fun _ hk => ⟨⟨hk.1, ⟨hk.2.1, ⟨hk.2.2.2.1, ⟨hk.2.2.2.2.1, hk.2.2.2.2.2⟩⟩⟩⟩, hk.2.2.1⟩)) hg (.inl rfl)); have n1_ := Q4 (Kd.V_afterv (v := (.slice (some ⟨go8, 0, none⟩) t311.length co22)) (v1 := (.slice (some ⟨go8, 0, none⟩) t311.length co22)) (ok := (fun k_ => ((P0_0_ k_ ∨ P0_1_ k_) ∨ w.heap.size ≤ k_) ∧ some k_ ≠ (.slice Ao18 t308.length co18 : Value).ownBlock ∧ k_ ≠ gb305 ∧ k_ ≠ gb306 ∧ k_ ≠ gb314)) (by (with_reducible repeat (first|apply Kd.V_alloc|apply Kd.V_drewN|apply Kd.V_drew)); exact Kd.V_mono HO0_1.out (fun _ hk => ⟨⟨hk.1, ⟨hk.2.1, ⟨hk.2.2.2.1, ⟨hk.2.2.2.2.1, hk.2.2.2.2.2⟩⟩⟩⟩, hk.2.2.1⟩)) hg (.inl rfl)); have n2_ := Q4 (blk_grown (g := gb305) (o := .cells #[.slice A0_0 l0_0.length c0_0, .slice A0_1 l0_1.length c0_1] 27 (0, 0)) (by (with_reducible repeat (first|refine Qa ?_ _|refine Qb ?_|refine Q7 ?_ _)); exact BK305.out) hg (Kd.R_ne HO313.out BK305.out (by decide))); have n3_ := Q4 (blk_grown (g := gb306) (o := .cells #[.slice none 0 0, .slice none 0 0] 27 (0, 0)) (by (with_reducible repeat (first|refine Qa ?_ _|refine Qb ?_|refine Q7 ?_ _)); exact BK306.out) hg (Kd.R_ne HO313.out BK306.out (by decide))); have n4_ := Q4 (Kd.N_afterv (v := (.slice (some ⟨go8, 0, none⟩) t311.length co22)) (v1 := (.slice (some ⟨go8, 0, none⟩) t311.length co22)) (ok := (fun k_ => ((P0_0_ k_ ∨ P0_1_ k_) ∨ w.heap.size ≤ k_) ∧ k_ ≠ gb305 ∧ k_ ≠ gb306 ∧ k_ ≠ gb314)) (by (with_reducible repeat (first|apply Kd.N_alloc|apply Kd.N_drewN|apply Kd.N_drew)); exact Kd.N_mono HO310.out (fun _ hk => ⟨⟨hk.1, ⟨hk.2.2.1, ⟨hk.2.2.2.1, hk.2.2.2.2⟩⟩⟩, hk.2.1⟩)) hg (.inl rfl)); have n5_ := Q4 (hp_); have n6_ := Q4 (blk_grown (g := gb314) (o := .cells #[.slice Ao18 t308.length co18, .slice (some ⟨go8, 0, none⟩) t311.length co22] 27 (0, 0)) (by (with_reducible repeat (first|refine Qa ?_ _|refine Qb ?_|refine Q7 ?_ _)); exact BK314.out) hg (Kd.R_ne HO313.out BK314.out (by decide))); have n7_ := Q4 ((by rw [hw]; exact Q6 (HB.out) GB8.out : Below w.heap.size w w26)); clear HO0_0; clear HO0_1; clear BK305; clear BK306; clear HO310; clear HO313; clear BK314; clear HB; have HO0_0 := n0_; have HO0_1 := n1_; have BK305 := n2_; have BK306 := n3_; have HO310 := n4_; have HO313 := n5_; have BK314 := n6_; have HB := n7_; clear n0_ n1_ n2_ n3_ n4_ n5_ n6_ n7_; clear hg hw hp_; have hcz27_0 : w26.cell? ⟨gb314, 0, none⟩ = some (.slice Ao18 t308.length co18) := (blk_cell BK314.out 0).trans rfl; have hcz27_1 : w26.cell? ⟨gb314, 1, none⟩ = some (.slice (some ⟨go8, 0, none⟩) t311.length co22) := (blk_cell BK314.out 1).trans rfl; have hfz27_0 := blk_frozen BK314.out 0; have hfz27_1 := blk_frozen BK314.out 1; have p317 : 0 ≤ (a1 : Int) := Qc (by first|(with_reducible assumption)|assumption); have q317 : a1 < (y316.length : Int) := (by have h_ : (a1 : Int) < ((t311.length : Int) : Int) := Qc (by first|(with_reducible assumption)|assumption); first|(have e_ := (Kd.R_reads' HO313.out).1; omega) | simpa only [Ny316.out, List.length_set] using h_); have ql317 : ((a1 : Int) < ((t311.length : Int) : Int)) = True := eq_true (Qc (by first|(with_reducible assumption)|assumption)); obtain ⟨ad317, e317, hx317_0⟩ := Kd.at_int (Kd.R_reads' HO313.out).2.2 a1 p317 q317; obtain rfl : (⟨go8, 0, none⟩ : Addr) = ad317 := (by injection e317); (first | simp only [add_plain] at hx317_0 | simp only [add_at] at hx317_0 | simp only [Addr.add, Nat.zero_add] at hx317_0|skip); replace p317 := eq_true p317; replace q317 := eq_true q317))
    (try simp only [Act.put, Q1,Q2,Q3])
    go_cut [] (fun wc => ∃ (kq : Nat) (x306000_8 : List (List (S57))) (x315000_8 : List (List (S57))) (u306000 : Value) (u315000 : Value), Aside0 (curtilageref05_Drop.j0 kq x315000_8 y316 = some (r1, r2, r3)) ∧ Aside0 (kq ≤ k) ∧ Aside0 (Kd.V (Kd.slice 57 k57) 29 wc w.heap.size (fun k_ => ((P0_0_ k_ ∨ P0_1_ k_) ∨ w.heap.size ≤ k_) ∧ some k_ ≠ (u315000 : Value).ownBlock ∧ some k_ ≠ ((.slice (some ⟨go8, 0, none⟩) t311.length co22) : Value).ownBlock ∧ k_ ≠ gb305 ∧ k_ ≠ gb306 ∧ k_ ≠ gb314) u306000 x306000_8) ∧ Aside0 (Kd.V (Kd.int .i64) 3 wc w.heap.size (fun k_ => ((P0_0_ k_ ∨ P0_1_ k_) ∨ w.heap.size ≤ k_) ∧ some k_ ≠ (u315000 : Value).ownBlock ∧ some k_ ≠ ((.slice (some ⟨go8, 0, none⟩) t311.length co22) : Value).ownBlock ∧ k_ ≠ gb305 ∧ k_ ≠ gb306 ∧ k_ ≠ gb314) (.slice A0_1 l0_1.length c0_1) l0_1) ∧ Aside0 (Kd.N (Kd.slice 57 k57) 29 wc w.heap.size (fun k_ => ((P0_0_ k_ ∨ P0_1_ k_) ∨ w.heap.size ≤ k_) ∧ some k_ ≠ ((.slice (some ⟨go8, 0, none⟩) t311.length co22) : Value).ownBlock ∧ k_ ≠ gb305 ∧ k_ ≠ gb306 ∧ k_ ≠ gb314) u315000 x315000_8) ∧ Aside0 (Kd.R (Kd.int .i64) 3 wc w.heap.size (fun k_ => (w.heap.size ≤ k_)) (.slice (some ⟨go8, 0, none⟩) t311.length co22) y316) ∧ Aside0 (wc.heap[gb305]? = some (.cells #[u306000, (.slice A0_1 l0_1.length c0_1)] 27 (0, 0))) ∧ Aside0 (wc.heap[gb306]? = some (.cells #[(.slice none 0 0), (.slice none 0 0)] 27 (0, 0))) ∧ Aside0 (wc.heap[gb314]? = some (.cells #[u315000, (.slice (some ⟨go8, 0, none⟩) t311.length co22)] 27 (0, 0))) ∧ Aside0 (Below w.heap.size w wc))
    case first =>
     have H := HC9.out
     clear HC9
     by_cases c28 : (rd y316 a1) = 0
     ·rw [if_pos c28] at H
      have c28b0 : ((rd y316 a1) == 0) = true := beq_iff_eq.mpr c28
      have c28b1 : ((rd y316 a1) != 0) = false := bne_eq_false_iff_eq.mpr c28
      clear c28
      (first | rw [c28b0]|(simp only [i64_w, i32_w]; rw [c28b0])|skip)
      by_cases c29 : a1 < (t308.length : Int)
      ·rw [if_pos c29] at H
       have c29b0 : decide (a1 < (t308.length : Int)) = true := decide_eq_true c29
       clear c29
       obtain ⟨y318, hy318⟩ : ∃ y_ : List (List (S57)), y_ = (t308.set (a1 : Int).toNat ([] : List (S57))) := ⟨_, rfl⟩
       replace H : (curtilageref05_Drop.j0 k y318 y316) = some (r1, r2, r3) := by first|(rw [hy318]; with_reducible exact H)|(have H2_ := (Option.bind_some _ _).symm.trans H; rw [hy318]; with_reducible exact H2_)|(have H2_ := (Option.bind_some _ _).symm.trans H; with_reducible exact H2_) | with_reducible exact H|(rw [hy318]; exact H)|exact H
       have Ny318 := Q4 hy318
       clear hy318
       have H' := Q4 H
       clear H
       have hnb31 := NB314_305.out
       have hnc31 := NB305_314.out
       have hnb32 := NB314_306.out
       have hnc32 := NB306_314.out
       have hcz33_0 : w26.cell? ⟨gb314, 0, none⟩ = some (.slice Ao18 t308.length co18) := (blk_cell BK314.out 0).trans rfl
       have hcz33_1 : w26.cell? ⟨gb314, 1, none⟩ = some (.slice (some ⟨go8, 0, none⟩) t311.length co22) := (blk_cell BK314.out 1).trans rfl
       have hfz33_0 := blk_frozen BK314.out 0
       have hfz33_1 := blk_frozen BK314.out 1
       have p30 : 0 ≤ (a1 : Int) := Qc (by first|(with_reducible assumption)|assumption)
       have q30 : (a1 : Int) < ((t308.length : Int) : Int) := Qc (by first|(with_reducible assumption)|assumption)
       obtain ⟨go30, co30, eo30, gb30, gl30, cl30, HG30⟩ := Kd.N_form HO310.out (by omega)
       (first | cases eo30|(injection eo30 with ea_ en_ ec_; (first | subst ea_|(injection ea_ with ea_; subst ea_)); subst ec_; clear en_))
       have GB30 := Q4 gb30
       have GG30 := Q4 HG30
       clear gb30 gl30 HG30
       obtain ⟨ce30, hcl30, hM30, hcc30, hfr30⟩ := Kd.N_elem HO310.out [] (a1 : Int) p30 q30
       obtain ⟨ua30_0, uc30_0, rfl, ul30_0, ge30_0⟩ := Kd.FK_slice_open hM30
       have hx30_0 := hcc30 0 _ rfl
       have hf30_0 := hfr30 0
       (try simp only [show ((Kd.slice 57 k57)).sz = 1 from rfl, Nat.mul_one, Nat.add_zero] at hx30_0)
       (try simp only [show ((Kd.slice 57 k57)).sz = 1 from rfl, Nat.mul_one, Nat.add_zero] at hf30_0)
       clear hcl30 hcc30 hfr30 hM30
       replace p30 := eq_true p30
       replace q30 := eq_true q30
       have n_ := Q4 (Kd.N_mono (ok' := (fun k_ => ((P0_0_ k_ ∨ P0_1_ k_) ∨ w.heap.size ≤ k_) ∧ some k_ ≠ (.slice (some ⟨go8, 0, none⟩) t311.length co22 : Value).ownBlock ∧ k_ ≠ gb305 ∧ k_ ≠ gb306 ∧ k_ ≠ gb314)) HO310.out (fun k_ hk => ⟨hk.1.1, ⟨hk.2, ⟨hk.1.2.1, ⟨hk.1.2.2.1, hk.1.2.2.2⟩⟩⟩⟩))
       clear HO310
       have HO310 := n_
       clear n_
       have HX34 := Q4 (show Kd.N (Kd.slice 57 k57) 29 w26 w.heap.size (fun k_ => ((P0_0_ k_ ∨ P0_1_ k_) ∨ w.heap.size ≤ k_) ∧ some k_ ≠ (.slice (some ⟨go8, 0, none⟩) t311.length co22 : Value).ownBlock ∧ k_ ≠ gb305 ∧ k_ ≠ gb306 ∧ k_ ≠ gb314) (.slice (some ⟨go30, 0, none⟩) t308.length co18) t308 from (by (with_reducible repeat (first|apply Kd.N_alloc|apply Kd.N_drewN|apply Kd.N_drew)); exact HO310.out))
       obtain ⟨ce34, hcl34, hM34, hcc34, hfr34⟩ := Kd.N_elem HX34.out [] (a1 : Int) (Qc (by first|(with_reducible assumption)|assumption)) (by have h_ : (a1 : Int) < ((t308.length : Int) : Int) := Qc (by first|(with_reducible assumption)|assumption); first|exact h_|(have e_ := (Kd.N_reads' HO310.out).1; omega) | simpa using h_)
       obtain ⟨ua34_0, uc34_0, rfl, ul34_0, ge34_0⟩ := Kd.FK_slice_open hM34
       have HP34 := Kd.N_seg HX34.out (a1 : Int) (Qc (by first|(with_reducible assumption)|assumption)) (by have h_ : (a1 : Int) < ((t308.length : Int) : Int) := Qc (by first|(with_reducible assumption)|assumption); first|exact h_|(have e_ := (Kd.N_reads' HO310.out).1; omega) | simpa using h_) (seg := [.slice none 0 0]) (j := 0) hcl34 hcc34 (show 1 ≤ 1 from by decide) (x' := ([] : List (S57))) (Kd.FK_slice_mk (Nat.le_refl _) (Kd.F_nil _ _ _)) (fun _ hk => hk)
       have hx34_0 := hcc34 0 _ rfl
       (try simp only [show ((Kd.slice 57 k57)).sz = 1 from rfl, Nat.mul_one, Nat.add_zero] at hx34_0)
       have hf34_0 := hfr34 0
       (try simp only [show ((Kd.slice 57 k57)).sz = 1 from rfl, Nat.mul_one, Nat.add_zero] at hf34_0)
       clear hcl34 hcc34 hfr34 hM34
       (try simp only [show ((Kd.slice 57 k57)).sz = 1 from rfl, Nat.mul_one, Nat.add_zero] at HP34)
       (try simp only [show ((Kd.slice 57 k57)).sz = 1 from rfl, Nat.mul_one, Nat.add_zero] at HP34)
       go_wp2_with (first|((with_reducible refine gate_store (t := 29) (p := 31) rfl ?_); refine store_event (t := 29) (p := 31) (v := ?vo_w35) (w1 := (w26.setCell ⟨go30, (a1 : Int).toNat, none⟩ (.slice none 0 0))) ?hg ?ho ?hn ?hr ?_; (case ho => rfl); (case hg => rfl); (case hn => rfl); (case hr => first|(go_simp; done)|(go_simp; rfl)); intro w35 hw; have hg : w26.grownBy w35 (some go30) := (by rw [hw]; exact HP34.2); have hp_ : Kd.N (Kd.slice 57 k57) 29 w35 w.heap.size (fun k_ => ((P0_0_ k_ ∨ P0_1_ k_) ∨ w.heap.size ≤ k_) ∧ some k_ ≠ (.slice (some ⟨go8, 0, none⟩) t311.length co22 : Value).ownBlock ∧ k_ ≠ gb305 ∧ k_ ≠ gb306 ∧ k_ ≠ gb314) (.slice (some ⟨go30, 0, none⟩) t308.length co18) y318 := (by rw [hw, Ny318.out]; exact HP34.1); clear HP34; have n0_ := Q4 (Kd.V_afterv (v := (.slice (some ⟨go30, 0, none⟩) t308.length co18)) (v1 := (.slice (some ⟨go30, 0, none⟩) t308.length co18)) (ok := (fun k_ => ((P0_0_ k_ ∨ P0_1_ k_) ∨ w.heap.size ≤ k_) ∧ some k_ ≠ (.slice (some ⟨go8, 0, none⟩) t311.length co22 : Value).ownBlock ∧ k_ ≠ gb305 ∧ k_ ≠ gb306 ∧ k_ ≠ gb314)) (by (with_reducible repeat (first|apply Kd.V_alloc|apply Kd.V_drewN|apply Kd.V_drew)); exact Kd.V_mono HO0_0.out (fun _ hk => ⟨⟨hk.1.1, ⟨hk.2, ⟨hk.1.2.2.1, ⟨hk.1.2.2.2.1, hk.1.2.2.2.2⟩⟩⟩⟩, hk.1.2.1⟩)) hg (.inl rfl)); have n1_ := Q4 (Kd.V_afterv (v := (.slice (some ⟨go30, 0, none⟩) t308.length co18)) (v1 := (.slice (some ⟨go30, 0, none⟩) t308.length co18)) (ok := (fun k_ => ((P0_0_ k_ ∨ P0_1_ k_) ∨ w.heap.size ≤ k_) ∧ some k_ ≠ (.slice (some ⟨go8, 0, none⟩) t311.length co22 : Value).ownBlock ∧ k_ ≠ gb305 ∧ k_ ≠ gb306 ∧ k_ ≠ gb314)) (by (with_reducible repeat (first|apply Kd.V_alloc|apply Kd.V_drewN|apply Kd.V_drew)); exact Kd.V_mono HO0_1.out (fun _ hk => ⟨⟨hk.1.1, ⟨hk.2, ⟨hk.1.2.2.1, ⟨hk.1.2.2.2.1, hk.1.2.2.2.2⟩⟩⟩⟩, hk.1.2.1⟩)) hg (.inl rfl)); have n2_ := Q4 (blk_grown (g := gb305) (o := .cells #[.slice A0_0 l0_0.length c0_0, .slice A0_1 l0_1.length c0_1] 27 (0, 0)) (by (with_reducible repeat (first|refine Qa ?_ _|refine Qb ?_|refine Q7 ?_ _)); exact BK305.out) hg (Kd.N_ne HO310.out BK305.out (by decide))); have n3_ := Q4 (blk_grown (g := gb306) (o := .cells #[.slice none 0 0, .slice none 0 0] 27 (0, 0)) (by (with_reducible repeat (first|refine Qa ?_ _|refine Qb ?_|refine Q7 ?_ _)); exact BK306.out) hg (Kd.N_ne HO310.out BK306.out (by decide))); have n4_ := Q4 (hp_); have n5_ := Q4 (Kd.R_over' (v := (.slice (some ⟨go30, 0, none⟩) t308.length co18)) (by (with_reducible repeat (first|apply Kd.R_alloc|apply Kd.R_drewN|apply Kd.R_drew)); exact HO313.out) (Kd.N_typed HO310.out) (by decide) hg); have n6_ := Q4 (blk_grown (g := gb314) (o := .cells #[.slice (some ⟨go30, 0, none⟩) t308.length co18, .slice (some ⟨go8, 0, none⟩) t311.length co22] 27 (0, 0)) (by (with_reducible repeat (first|refine Qa ?_ _|refine Qb ?_|refine Q7 ?_ _)); exact BK314.out) hg (Kd.N_ne HO310.out BK314.out (by decide))); have n7_ := Q4 ((by rw [hw]; exact Q6 (HB.out) GB30.out : Below w.heap.size w w35)); clear HO0_0; clear HO0_1; clear BK305; clear BK306; clear HO310; clear HO313; clear BK314; clear HB; have HO0_0 := n0_; have HO0_1 := n1_; have BK305 := n2_; have BK306 := n3_; have HO310 := n4_; have HO313 := n5_; have BK314 := n6_; have HB := n7_; clear n0_ n1_ n2_ n3_ n4_ n5_ n6_ n7_; clear hg hw hp_))
       go_meet
       case rel => exact ⟨_, (l0_0), (y318), (.slice A0_0 l0_0.length c0_0), (.slice (some ⟨go30, 0, none⟩) t308.length co18), H', ⟨by first|omega|exact Nat.le_refl _⟩, ⟨by (with_reducible repeat (first|apply Kd.V_alloc|apply Kd.V_drewN|apply Kd.V_drew)); exact Kd.V_mono HO0_0.out (fun _ hk => ⟨hk.1.1, ⟨hk.2, ⟨hk.1.2.1, ⟨hk.1.2.2.1, ⟨hk.1.2.2.2.1, hk.1.2.2.2.2⟩⟩⟩⟩⟩)⟩, ⟨by (with_reducible repeat (first|apply Kd.V_alloc|apply Kd.V_drewN|apply Kd.V_drew)); exact Kd.V_mono HO0_1.out (fun _ hk => ⟨hk.1.1, ⟨hk.2, ⟨hk.1.2.1, ⟨hk.1.2.2.1, ⟨hk.1.2.2.2.1, hk.1.2.2.2.2⟩⟩⟩⟩⟩)⟩, ⟨by (with_reducible repeat (first|apply Kd.N_alloc|apply Kd.N_drewN|apply Kd.N_drew)); exact HO310.out⟩, ⟨by (with_reducible repeat (first|apply Kd.R_alloc|apply Kd.R_drewN|apply Kd.R_drew)); exact HO313.out⟩, ⟨by (with_reducible repeat (first|refine Qa ?_ _|refine Qb ?_|refine Q7 ?_ _)); exact BK305.out⟩, ⟨by (with_reducible repeat (first|refine Qa ?_ _|refine Qb ?_|refine Q7 ?_ _)); exact BK306.out⟩, ⟨by (with_reducible repeat (first|refine Qa ?_ _|refine Qb ?_|refine Q7 ?_ _)); exact BK314.out⟩, ⟨by repeat (first|(with_reducible first|exact HB.out|apply Q8|apply Q5|apply Q9|refine Q6 ?_ GE305.out|refine Q6 ?_ GE306.out|refine Q6 ?_ GE314.out)|exact HB.out)⟩⟩
      ·rw [if_neg c29] at H
       exact absurd H (by simp)
     ·rw [if_neg c28] at H
      have c28b0 : ((rd y316 a1) == 0) = false := beq_eq_false_iff_ne.mpr c28
      have c28b1 : ((rd y316 a1) != 0) = true := bne_iff_ne.mpr c28
      (first | rw [c28b0]|(simp only [i64_w, i32_w]; rw [c28b0])|skip)
      have H' := Q4 H
      clear H
      go_wp2
      go_meet
      case rel => exact ⟨_, (l0_0), (t308), (.slice A0_0 l0_0.length c0_0), (.slice Ao18 t308.length co18), H', ⟨by first|omega|exact Nat.le_refl _⟩, ⟨by (with_reducible repeat (first|apply Kd.V_alloc|apply Kd.V_drewN|apply Kd.V_drew)); exact Kd.V_mono HO0_0.out (fun _ hk => ⟨hk.1.1, ⟨hk.1.2.1, ⟨hk.2, ⟨hk.1.2.2.1, ⟨hk.1.2.2.2.1, hk.1.2.2.2.2⟩⟩⟩⟩⟩)⟩, ⟨by (with_reducible repeat (first|apply Kd.V_alloc|apply Kd.V_drewN|apply Kd.V_drew)); exact Kd.V_mono HO0_1.out (fun _ hk => ⟨hk.1.1, ⟨hk.1.2.1, ⟨hk.2, ⟨hk.1.2.2.1, ⟨hk.1.2.2.2.1, hk.1.2.2.2.2⟩⟩⟩⟩⟩)⟩, ⟨by (with_reducible repeat (first|apply Kd.N_alloc|apply Kd.N_drewN|apply Kd.N_drew)); exact Kd.N_mono HO310.out (fun _ hk => ⟨hk.1.1, ⟨hk.2, ⟨hk.1.2.1, ⟨hk.1.2.2.1, hk.1.2.2.2⟩⟩⟩⟩)⟩, ⟨by (with_reducible repeat (first|apply Kd.R_alloc|apply Kd.R_drewN|apply Kd.R_drew)); exact HO313.out⟩, ⟨by (with_reducible repeat (first|refine Qa ?_ _|refine Qb ?_|refine Q7 ?_ _)); exact BK305.out⟩, ⟨by (with_reducible repeat (first|refine Qa ?_ _|refine Qb ?_|refine Q7 ?_ _)); exact BK306.out⟩, ⟨by (with_reducible repeat (first|refine Qa ?_ _|refine Qb ?_|refine Q7 ?_ _)); exact BK314.out⟩, ⟨by repeat (first|(with_reducible first|exact HB.out|apply Q8|apply Q5|apply Q9|refine Q6 ?_ GE305.out|refine Q6 ?_ GE306.out|refine Q6 ?_ GE314.out)|exact HB.out)⟩⟩
    case rest =>
     clear HC9
     (try clear c1);(try clear c2);(try clear p2);(try clear c3);(try clear p3);(try clear q3);(try clear hx3);(try clear hf3);(try clear c4);(try clear c6);(try clear c6b0);(try clear p6);(try clear c7);(try clear c7b0);(try clear p8);(try clear q8);(try clear hx8);(try clear hf8);(try clear c12);(try clear c19);(try clear c20);(try clear c28);(try clear c28b0);(try clear c28b1);(try clear c29);(try clear c29b0);(try clear c30);(try clear p30);(try clear q30);(try clear hx30);(try clear hf30);(try clear c31);(try clear p31);(try clear q31);(try clear hx31);(try clear c32);(try clear c34);(try clear hx34);(try clear hf34);(try clear c35);(try clear hcz13_0);(try clear hcz13_1);(try clear hcz15_0);(try clear hcz15_1);(try clear hcz21_0);(try clear hcz21_1);(try clear hcz24_0);(try clear hcz24_1);(try clear hcz27_0);(try clear hcz27_1);(try clear hcz33_0);(try clear hcz33_1);(try clear hfz13_0);(try clear hfz13_1);(try clear hfz15_0);(try clear hfz15_1);(try clear hfz21_0);(try clear hfz21_1);(try clear hfz24_0);(try clear hfz24_1);(try clear hfz27_0);(try clear hfz27_1);(try clear hfz33_0);(try clear hfz33_1);(try clear hx30_0);(try clear hx315_0);(try clear hx317_0);(try clear hx34_0);(try clear hx8_0);(try clear p30);(try clear p315);(try clear p317);(try clear p8);(try clear q30);(try clear q315);(try clear q317);(try clear q8)
     obtain ⟨kq, x306000_8, x315000_8, u306000, u315000, HA, HJ8, HO_306000, HO_306001, HO_315000, HO_315001, BK305, BK306, BK314, HB⟩ := hcut
     have hl315001_8 := (Kd.R_reads' HO_315001.out).1
     rw [hl315001_8] at HO_315001
     (try simp only [hl315001_8])
     (try simp only [hl315001_8] at BK305)
     (try simp only [hl315001_8] at BK306)
     (try simp only [hl315001_8] at BK314)
     (try simp only [hl315001_8] at HO_306000)
     (try simp only [hl315001_8] at HO_306001)
     (try simp only [hl315001_8] at HO_315000)
     cases kq with
     | zero => exact absurd HA.out (by simp [curtilageref05_Drop.j0])
     | succ kj8 =>
      have H := HA.out
      clear HA
      simp only [curtilageref05_Drop.j0] at H
      have H' := Q4 H
      clear H
      have hnb36 := NB314_305.out
      have hnc36 := NB305_314.out
      have hnb37 := NB314_306.out
      have hnc37 := NB306_314.out
      have hcz38_0 : wc.cell? ⟨gb314, 0, none⟩ = some (u315000) := (blk_cell BK314.out 0).trans rfl
      have hcz38_1 : wc.cell? ⟨gb314, 1, none⟩ = some (.slice (some ⟨go8, 0, none⟩) y316.length co22) := (blk_cell BK314.out 1).trans rfl
      have hfz38_0 := blk_frozen BK314.out 0
      have hfz38_1 := blk_frozen BK314.out 1
      go_wp2
      go_loopg [7] kj8 (fun kq v7 w' => ∃ (x7_2 : Int), v7 = .int .i64 x7_2 ∧ Aside0 (curtilageref05_Drop.l0 kq x7_2 x315000_8 y316 = some (r1, r2, r3)) ∧ Aside0 (kq ≤ kj8) ∧ Aside0 (Kd.V (Kd.slice 57 k57) 29 w' w.heap.size (fun k_ => ((P0_0_ k_ ∨ P0_1_ k_) ∨ w.heap.size ≤ k_) ∧ some k_ ≠ (u315000 : Value).ownBlock ∧ some k_ ≠ ((.slice (some ⟨go8, 0, none⟩) y316.length co22) : Value).ownBlock ∧ k_ ≠ gb305 ∧ k_ ≠ gb306 ∧ k_ ≠ gb314) u306000 x306000_8) ∧ Aside0 (Kd.V (Kd.int .i64) 3 w' w.heap.size (fun k_ => ((P0_0_ k_ ∨ P0_1_ k_) ∨ w.heap.size ≤ k_) ∧ some k_ ≠ (u315000 : Value).ownBlock ∧ some k_ ≠ ((.slice (some ⟨go8, 0, none⟩) y316.length co22) : Value).ownBlock ∧ k_ ≠ gb305 ∧ k_ ≠ gb306 ∧ k_ ≠ gb314) (.slice A0_1 l0_1.length c0_1) l0_1) ∧ Aside0 (Kd.N (Kd.slice 57 k57) 29 w' w.heap.size (fun k_ => ((P0_0_ k_ ∨ P0_1_ k_) ∨ w.heap.size ≤ k_) ∧ some k_ ≠ ((.slice (some ⟨go8, 0, none⟩) y316.length co22) : Value).ownBlock ∧ k_ ≠ gb305 ∧ k_ ≠ gb306 ∧ k_ ≠ gb314) u315000 x315000_8) ∧ Aside0 (Kd.R (Kd.int .i64) 3 w' w.heap.size (fun k_ => (w.heap.size ≤ k_)) (.slice (some ⟨go8, 0, none⟩) y316.length co22) y316) ∧ Aside0 (w'.heap[gb305]? = some (.cells #[u306000, (.slice A0_1 l0_1.length c0_1)] 27 (0, 0))) ∧ Aside0 (w'.heap[gb306]? = some (.cells #[(.slice none 0 0), (.slice none 0 0)] 27 (0, 0))) ∧ Aside0 (w'.heap[gb314]? = some (.cells #[u315000, (.slice (some ⟨go8, 0, none⟩) y316.length co22)] 27 (0, 0))) ∧ Aside0 (Below w.heap.size w w'))
      case atStart => exact ⟨((y316.length : Int)), (by first|rfl|(simp; done)|(simp [*]; done)), H', ⟨Nat.le_refl _⟩, ⟨by (try simp only [hl315001_8]); (with_reducible repeat (first|apply Kd.V_alloc|apply Kd.V_drewN|apply Kd.V_drew)); exact HO_306000.out⟩, ⟨by (try simp only [hl315001_8]); (with_reducible repeat (first|apply Kd.V_alloc|apply Kd.V_drewN|apply Kd.V_drew)); exact HO_306001.out⟩, ⟨by (try simp only [hl315001_8]); (with_reducible repeat (first|apply Kd.N_alloc|apply Kd.N_drewN|apply Kd.N_drew)); exact HO_315000.out⟩, ⟨by (try simp only [hl315001_8]); (with_reducible repeat (first|apply Kd.R_alloc|apply Kd.R_drewN|apply Kd.R_drew)); exact HO_315001.out⟩, ⟨by (try simp only [hl315001_8]); (with_reducible repeat (first|refine Qa ?_ _|refine Qb ?_|refine Q7 ?_ _)); exact BK305.out⟩, ⟨by (try simp only [hl315001_8]); (with_reducible repeat (first|refine Qa ?_ _|refine Qb ?_|refine Q7 ?_ _)); exact BK306.out⟩, ⟨by (try simp only [hl315001_8]); (with_reducible repeat (first|refine Qa ?_ _|refine Qb ?_|refine Q7 ?_ _)); exact BK314.out⟩, ⟨by repeat (first|(with_reducible first|exact HB.out|apply Q8|apply Q5|apply Q9|refine Q6 ?_ GE305.out|refine Q6 ?_ GE306.out|refine Q6 ?_ GE314.out)|exact HB.out)⟩⟩
      case round =>
       clear H'
       (try clear c1);(try clear c2);(try clear p2);(try clear c3);(try clear p3);(try clear q3);(try clear hx3);(try clear hf3);(try clear c4);(try clear c6);(try clear c6b0);(try clear p6);(try clear c7);(try clear c7b0);(try clear p8);(try clear q8);(try clear hx8);(try clear hf8);(try clear c12);(try clear c19);(try clear c20);(try clear c28);(try clear c28b0);(try clear c28b1);(try clear c29);(try clear c29b0);(try clear c30);(try clear p30);(try clear q30);(try clear hx30);(try clear hf30);(try clear c31);(try clear p31);(try clear q31);(try clear hx31);(try clear c32);(try clear c34);(try clear hx34);(try clear hf34);(try clear c35);(try clear c36);(try clear c37);(try clear hcz13_0);(try clear hcz13_1);(try clear hcz15_0);(try clear hcz15_1);(try clear hcz21_0);(try clear hcz21_1);(try clear hcz24_0);(try clear hcz24_1);(try clear hcz27_0);(try clear hcz27_1);(try clear hcz33_0);(try clear hcz33_1);(try clear hcz38_0);(try clear hcz38_1);(try clear hfz13_0);(try clear hfz13_1);(try clear hfz15_0);(try clear hfz15_1);(try clear hfz21_0);(try clear hfz21_1);(try clear hfz24_0);(try clear hfz24_1);(try clear hfz27_0);(try clear hfz27_1);(try clear hfz33_0);(try clear hfz33_1);(try clear hfz38_0);(try clear hfz38_1);(try clear hx30_0);(try clear hx315_0);(try clear hx317_0);(try clear hx34_0);(try clear hx8_0);(try clear p2);(try clear p3);(try clear p30);(try clear p31);(try clear p315);(try clear p317);(try clear p6);(try clear p8);(try clear q3);(try clear q30);(try clear q31);(try clear q315);(try clear q317);(try clear q8)
       obtain ⟨x7_2, rfl, HA, HK2, HO_306000, HO_306001, HO_315000, HO_315001, BK305, BK306, BK314, HB⟩ := hrel
       cases gk with
       | zero => exact absurd HA.out (by simp [curtilageref05_Drop.l0])
       | succ k2 =>
        have H := HA.out
        clear HA
        simp only [curtilageref05_Drop.l0] at H
        by_cases c39 : x7_2 > 0
        ·rw [if_pos c39] at H
         have c39b0 : decide (0 < x7_2) = true := decide_eq_true c39
         clear c39
         obtain ⟨ji40, hji40⟩ : ∃ j_ : Int, (wrap64 (x7_2 - 1)) = j_ := ⟨_, rfl⟩
         replace H : (if 0 ≤ (ji40) then (if (ji40) < (y316.length : Int) then (if (rd y316 (ji40)) = 0 then (curtilageref05_Drop.l0 k2 ji40 x315000_8 y316) else (if 0 ≤ x7_2 then (if x7_2 ≤ (x315000_8.length : Int) then (if x7_2 ≤ (y316.length : Int) then (some ((x315000_8.take (x7_2 : Int).toNat), (y316.take (x7_2 : Int).toNat), 0)) else (none)) else (none)) else (none))) else (none)) else (none)) = some (r1, r2, r3) := by first|(rw [hji40] at H; exact H)|(simp only [hji40] at H ⊢; exact H)
         have hji40w : (IntKind.i64.wrap (x7_2 - 1)) = ji40 := (i64_w _).trans hji40
         by_cases c41 : 0 ≤ (ji40)
         ·rw [if_pos c41] at H
          have c41b0 : decide (0 ≤ (ji40)) = true := decide_eq_true c41
          clear c41
          by_cases c42 : (ji40) < (y316.length : Int)
          ·rw [if_pos c42] at H
           have c42b0 : decide ((ji40) < (y316.length : Int)) = true := decide_eq_true c42
           clear c42
           by_cases c43 : (rd y316 (ji40)) = 0
           ·rw [if_pos c43] at H
            have c43b0 : ((rd y316 (ji40)) == 0) = true := beq_iff_eq.mpr c43
            have c43b1 : ((rd y316 (ji40)) != 0) = false := bne_eq_false_iff_eq.mpr c43
            clear c43
            have H' := Q4 H
            clear H
            have hnb44 := NB314_305.out
            have hnc44 := NB305_314.out
            have hnb45 := NB314_306.out
            have hnc45 := NB306_314.out
            have hcz46_0 : wr.cell? ⟨gb314, 0, none⟩ = some (u315000) := (blk_cell BK314.out 0).trans rfl
            have hcz46_1 : wr.cell? ⟨gb314, 1, none⟩ = some (.slice (some ⟨go8, 0, none⟩) y316.length co22) := (blk_cell BK314.out 1).trans rfl
            have hfz46_0 := blk_frozen BK314.out 0
            have hfz46_1 := blk_frozen BK314.out 1
            have p319 : 0 ≤ ((ji40) : Int) := Qc (by first|(with_reducible assumption)|assumption)
            have q319 : (ji40) < (y316.length : Int) := Qc (by first|(with_reducible assumption)|assumption)
            obtain ⟨ad319, e319, hx319_0⟩ := Kd.at_int (Kd.R_reads' HO_315001.out).2.2 (ji40) p319 q319
            obtain rfl : (⟨go8, 0, none⟩ : Addr) = ad319 := (by injection e319)
            (first | simp only [add_plain] at hx319_0 | simp only [add_at] at hx319_0 | simp only [Addr.add, Nat.zero_add] at hx319_0|skip)
            replace p319 := eq_true p319
            replace q319 := eq_true q319
            go_wp2
            go_roundg k2
            case measure => have := HJ8.out; have := HK2.out; omega
            case rel => exact ⟨(ji40), (by first|rfl|(simp; done)|(simp only [← hji40] <;> (first|rfl | simp))|(simp [*]; done)), H', ⟨by have := HJ8.out; have := HK2.out; omega⟩, ⟨by (try simp only [hl315001_8]); (with_reducible repeat (first|apply Kd.V_alloc|apply Kd.V_drewN|apply Kd.V_drew)); exact HO_306000.out⟩, ⟨by (try simp only [hl315001_8]); (with_reducible repeat (first|apply Kd.V_alloc|apply Kd.V_drewN|apply Kd.V_drew)); exact HO_306001.out⟩, ⟨by (try simp only [hl315001_8]); (with_reducible repeat (first|apply Kd.N_alloc|apply Kd.N_drewN|apply Kd.N_drew)); exact HO_315000.out⟩, ⟨by (try simp only [hl315001_8]); (with_reducible repeat (first|apply Kd.R_alloc|apply Kd.R_drewN|apply Kd.R_drew)); exact HO_315001.out⟩, ⟨by (try simp only [hl315001_8]); (with_reducible repeat (first|refine Qa ?_ _|refine Qb ?_|refine Q7 ?_ _)); exact BK305.out⟩, ⟨by (try simp only [hl315001_8]); (with_reducible repeat (first|refine Qa ?_ _|refine Qb ?_|refine Q7 ?_ _)); exact BK306.out⟩, ⟨by (try simp only [hl315001_8]); (with_reducible repeat (first|refine Qa ?_ _|refine Qb ?_|refine Q7 ?_ _)); exact BK314.out⟩, ⟨by repeat (first|(with_reducible first|exact HB.out|apply Q8|apply Q5|apply Q9|refine Q6 ?_ GE305.out|refine Q6 ?_ GE306.out|refine Q6 ?_ GE314.out)|exact HB.out)⟩⟩
           ·rw [if_neg c43] at H
            have c43b0 : ((rd y316 (ji40)) == 0) = false := beq_eq_false_iff_ne.mpr c43
            have c43b1 : ((rd y316 (ji40)) != 0) = true := bne_iff_ne.mpr c43
            by_cases c47 : 0 ≤ x7_2
            ·rw [if_pos c47] at H
             have c47b0 := eq_true c47
             have c47b1 : decide (0 ≤ x7_2) = true := decide_eq_true c47
             clear c47
             by_cases c48 : x7_2 ≤ (x315000_8.length : Int)
             ·rw [if_pos c48] at H
              have c48b0 := eq_true c48
              have c48b1 : decide (x7_2 ≤ (x315000_8.length : Int)) = true := decide_eq_true c48
              clear c48
              obtain ⟨y320, hy320⟩ : ∃ y_ : List (List (S57)), y_ = (x315000_8.take (x7_2 : Int).toNat) := ⟨_, rfl⟩
              replace H : (if x7_2 ≤ (y316.length : Int) then (some (y320, (y316.take (x7_2 : Int).toNat), 0)) else (none)) = some (r1, r2, r3) := by first|(rw [hy320]; with_reducible exact H)|(have H2_ := (Option.bind_some _ _).symm.trans H; rw [hy320]; with_reducible exact H2_)|(have H2_ := (Option.bind_some _ _).symm.trans H; with_reducible exact H2_) | with_reducible exact H|(rw [hy320]; exact H)|exact H
              have Ny320 := Q4 hy320
              clear hy320
              by_cases c49 : x7_2 ≤ (y316.length : Int)
              ·rw [if_pos c49] at H
               have c49b0 := eq_true c49
               have c49b1 : decide (x7_2 ≤ (y316.length : Int)) = true := decide_eq_true c49
               clear c49
               obtain ⟨y323, hy323⟩ : ∃ y_ : List Int, y_ = (y316.take (x7_2 : Int).toNat) := ⟨_, rfl⟩
               replace H : (some (y320, y323, 0)) = some (r1, r2, r3) := by first|(rw [hy323]; with_reducible exact H)|(have H2_ := (Option.bind_some _ _).symm.trans H; rw [hy323]; with_reducible exact H2_)|(have H2_ := (Option.bind_some _ _).symm.trans H; with_reducible exact H2_) | with_reducible exact H|(rw [hy323]; exact H)|exact H
               have Ny323 := Q4 hy323
               clear hy323
               simp only [Option.some.injEq, Prod.mk.injEq] at H
               obtain ⟨rfl, rfl, rfl⟩ := H
               have hnb50 := NB314_305.out
               have hnc50 := NB305_314.out
               have hnb51 := NB314_306.out
               have hnc51 := NB306_314.out
               have hcz52_0 : wr.cell? ⟨gb314, 0, none⟩ = some (u315000) := (blk_cell BK314.out 0).trans rfl
               have hcz52_1 : wr.cell? ⟨gb314, 1, none⟩ = some (.slice (some ⟨go8, 0, none⟩) y316.length co22) := (blk_cell BK314.out 1).trans rfl
               have hfz52_0 := blk_frozen BK314.out 0
               have hfz52_1 := blk_frozen BK314.out 1
               have p319 : 0 ≤ ((ji40) : Int) := Qc (by first|(with_reducible assumption)|assumption)
               have q319 : (ji40) < (y316.length : Int) := Qc (by first|(with_reducible assumption)|assumption)
               obtain ⟨ad319, e319, hx319_0⟩ := Kd.at_int (Kd.R_reads' HO_315001.out).2.2 (ji40) p319 q319
               obtain rfl : (⟨go8, 0, none⟩ : Addr) = ad319 := (by injection e319)
               (first | simp only [add_plain] at hx319_0 | simp only [add_at] at hx319_0 | simp only [Addr.add, Nat.zero_add] at hx319_0|skip)
               replace p319 := eq_true p319
               replace q319 := eq_true q319
               obtain ⟨Ao53, co53, eo53⟩ := Kd.N_slice HO_315000.out
               subst eo53
               have q54 : (x7_2 : Int) ≤ ((x315000_8.length : Int) : Int) := Qc (by first|(with_reducible assumption)|assumption)
               obtain ⟨i054, hi054, _, hsz54, _⟩ := info_parts info29
               have hcut54 := cut_to (P := Try.prog) 22 29 .i64 Try.underlying22 hi054 Ao53 x315000_8.length co53 x7_2 (Qc (by first|(with_reducible assumption)|assumption)) q54 (Kd.N_reads' HO_315000.out).2.1
               have hr54 := Kd.N_take (m := (x7_2 : Int).toNat) HO_315000.out (by omega)
               have hy54 : y320.length = (x7_2 : Int).toNat := (by rw [Ny320.out, List.length_take]; omega)
               rw [← Ny320.out] at hr54
               rw [← hy54] at hr54 hcut54
               clear hy54 hi054 hsz54 HO_315000
               have HO322 := Q4 hr54
               clear hr54
               replace q54 := eq_true q54
               have qle : x7_2 ≤ (y316.length : Int) := Qc c49b1
               have hco := (Kd.R_reads' HO_315001.out).2.1
               have qc : (x7_2 ≤ (co22 : Int)) = True := eq_true (by omega)
               have hRt := Kd.R_take (m := x7_2.toNat) HO_315001.out (by omega)
               have g1 := blk_put BK314.out 0 (.slice Ao53 y320.length co53) rfl
               have g2 := blk_put g1 1 (.slice (some ⟨go8, 0, none⟩) x7_2.toNat co22) rfl
               have e0 := blk_far (p := ⟨gb314, 0, none⟩) BK306.out NB306_314.out (.slice Ao53 y320.length co53)
               have e1 := blk_far (p := ⟨gb314, 1, none⟩) e0 NB306_314.out (.slice (some ⟨go8, 0, none⟩) x7_2.toNat co22)
               have e2 := blk_put e1 0 (.slice Ao53 y320.length co53) rfl
               have e3 := blk_put e2 1 (.slice (some ⟨go8, 0, none⟩) x7_2.toNat co22) rfl
               have r1 := Kd.R_set hRt BK314.out (by decide) 0 (.slice Ao53 y320.length co53)
               have r2 := Kd.R_set r1 g1 (by decide) 1 (.slice (some ⟨go8, 0, none⟩) x7_2.toNat co22)
               have r3 := Kd.R_set r2 e1 (by decide) 0 (.slice Ao53 y320.length co53)
               have r4 := Kd.R_set r3 e2 (by decide) 1 (.slice (some ⟨go8, 0, none⟩) x7_2.toNat co22)
               rw [← Ny323.out] at r4
               have hyl : y323.length = x7_2.toNat := by rw [Ny323.out, List.length_take]; omega
               have m1 := Kd.N_far (p := ⟨gb314, 0, none⟩) HO322.out (fun k_ hk => by exact hk.2.2.2.2) (.slice Ao53 y320.length co53)
               have m2 := Kd.N_far (p := ⟨gb314, 1, none⟩) m1 (fun k_ hk => by exact hk.2.2.2.2) (.slice (some ⟨go8, 0, none⟩) x7_2.toNat co22)
               have m3 := Kd.N_far (p := ⟨gb306, 0, none⟩) m2 (fun k_ hk => by exact hk.2.2.2.1) (.slice Ao53 y320.length co53)
               have m4 := Kd.N_far (p := ⟨gb306, 1, none⟩) m3 (fun k_ hk => by exact hk.2.2.2.1) (.slice (some ⟨go8, 0, none⟩) x7_2.toNat co22)
               have b4 := Q6 (Q6 (Q6 (Q6 HB.out GE314.out (j := 0) (v := (.slice Ao53 y320.length co53))) GE314.out (j := 1) (v := (.slice (some ⟨go8, 0, none⟩) x7_2.toNat co22))) GE306.out (j := 0) (v := (.slice Ao53 y320.length co53))) GE306.out (j := 1) (v := (.slice (some ⟨go8, 0, none⟩) x7_2.toNat co22))
               have k0 := blk_cell e1 0
               have k1 := blk_cell e2 1
               have k2 := blk_frozen e1 0
               have k3 := blk_frozen e2 1
               simp only [List.getElem?_toArray, List.getElem?_cons_zero, List.getElem?_cons_succ, Q1,Q2,Q3] at k0 k1
               have E3 := Q4 e3
               have R4 := Q4 r4
               have M4 := Q4 m4
               have B4 := Q4 b4
               have HYL := Q4 hyl
               clear g1 g2 e0 e1 e2 e3 r1 r2 r3 r4 m1 m2 m3 m4 b4 hRt hco qle hyl
               go_wp2
               refine bodyPost_ret (results_ct rfl _ _ gb306 27 #[.slice Ao53 y320.length co53, .slice (some ⟨go8, 0, none⟩) x7_2.toNat co22] (0, 0) _ rfl E3.out Try.underlying27 rfl (by kernel_rfl)) rfl ?_
               exact ⟨_, _, rfl, Kd.V_mono (Kd.N_V M4.out) (fun k_ hk => hk.1), Kd.V_mono (Kd.R_V R4.out) (fun k_ hk => .inr hk), B4.out⟩
              ·rw [if_neg c49] at H
               exact absurd H (by simp)
             ·rw [if_neg c48] at H
              exact absurd H (by simp)
            ·rw [if_neg c47] at H
             exact absurd H (by simp)
          ·rw [if_neg c42] at H
           exact absurd H (by simp)
         ·rw [if_neg c41] at H
          exact absurd H (by simp)
        ·rw [if_neg c39] at H
         have c39b0 : decide (0 < x7_2) = false := decide_eq_false c39
         clear c39
         by_cases c60 : 0 ≤ x7_2
         ·rw [if_pos c60] at H
          have c60b0 := eq_true c60
          have c60b1 : decide (0 ≤ x7_2) = true := decide_eq_true c60
          clear c60
          by_cases c61 : x7_2 ≤ (x315000_8.length : Int)
          ·rw [if_pos c61] at H
           have c61b0 := eq_true c61
           have c61b1 : decide (x7_2 ≤ (x315000_8.length : Int)) = true := decide_eq_true c61
           clear c61
           obtain ⟨y326, hy326⟩ : ∃ y_ : List (List (S57)), y_ = (x315000_8.take (x7_2 : Int).toNat) := ⟨_, rfl⟩
           replace H : (if x7_2 ≤ (y316.length : Int) then (some (y326, (y316.take (x7_2 : Int).toNat), 0)) else (none)) = some (r1, r2, r3) := by first|(rw [hy326]; with_reducible exact H)|(have H2_ := (Option.bind_some _ _).symm.trans H; rw [hy326]; with_reducible exact H2_)|(have H2_ := (Option.bind_some _ _).symm.trans H; with_reducible exact H2_) | with_reducible exact H|(rw [hy326]; exact H)|exact H
           have Ny326 := Q4 hy326
           clear hy326
           by_cases c62 : x7_2 ≤ (y316.length : Int)
           ·rw [if_pos c62] at H
            have c62b0 := eq_true c62
            have c62b1 : decide (x7_2 ≤ (y316.length : Int)) = true := decide_eq_true c62
            clear c62
            obtain ⟨y329, hy329⟩ : ∃ y_ : List Int, y_ = (y316.take (x7_2 : Int).toNat) := ⟨_, rfl⟩
            replace H : (some (y326, y329, 0)) = some (r1, r2, r3) := by first|(rw [hy329]; with_reducible exact H)|(have H2_ := (Option.bind_some _ _).symm.trans H; rw [hy329]; with_reducible exact H2_)|(have H2_ := (Option.bind_some _ _).symm.trans H; with_reducible exact H2_) | with_reducible exact H|(rw [hy329]; exact H)|exact H
            have Ny329 := Q4 hy329
            clear hy329
            simp only [Option.some.injEq, Prod.mk.injEq] at H
            obtain ⟨rfl, rfl, rfl⟩ := H
            have hnb63 := NB314_305.out
            have hnc63 := NB305_314.out
            have hnb64 := NB314_306.out
            have hnc64 := NB306_314.out
            have hcz65_0 : wr.cell? ⟨gb314, 0, none⟩ = some (u315000) := (blk_cell BK314.out 0).trans rfl
            have hcz65_1 : wr.cell? ⟨gb314, 1, none⟩ = some (.slice (some ⟨go8, 0, none⟩) y316.length co22) := (blk_cell BK314.out 1).trans rfl
            have hfz65_0 := blk_frozen BK314.out 0
            have hfz65_1 := blk_frozen BK314.out 1
            obtain ⟨Ao66, co66, eo66⟩ := Kd.N_slice HO_315000.out
            subst eo66
            have q67 : (x7_2 : Int) ≤ ((x315000_8.length : Int) : Int) := Qc (by first|(with_reducible assumption)|assumption)
            obtain ⟨i067, hi067, _, hsz67, _⟩ := info_parts info29
            have hcut67 := cut_to (P := Try.prog) 22 29 .i64 Try.underlying22 hi067 Ao66 x315000_8.length co66 x7_2 (Qc (by first|(with_reducible assumption)|assumption)) q67 (Kd.N_reads' HO_315000.out).2.1
            have hr67 := Kd.N_take (m := (x7_2 : Int).toNat) HO_315000.out (by omega)
            have hy67 : y326.length = (x7_2 : Int).toNat := (by rw [Ny326.out, List.length_take]; omega)
            rw [← Ny326.out] at hr67
            rw [← hy67] at hr67 hcut67
            clear hy67 hi067 hsz67 HO_315000
            have HO328 := Q4 hr67
            clear hr67
            replace q67 := eq_true q67
            have qle : x7_2 ≤ (y316.length : Int) := Qc c62b1
            have hco := (Kd.R_reads' HO_315001.out).2.1
            have qc : (x7_2 ≤ (co22 : Int)) = True := eq_true (by omega)
            have hRt := Kd.R_take (m := x7_2.toNat) HO_315001.out (by omega)
            have g1 := blk_put BK314.out 0 (.slice Ao66 y326.length co66) rfl
            have g2 := blk_put g1 1 (.slice (some ⟨go8, 0, none⟩) x7_2.toNat co22) rfl
            have e0 := blk_far (p := ⟨gb314, 0, none⟩) BK306.out NB306_314.out (.slice Ao66 y326.length co66)
            have e1 := blk_far (p := ⟨gb314, 1, none⟩) e0 NB306_314.out (.slice (some ⟨go8, 0, none⟩) x7_2.toNat co22)
            have e2 := blk_put e1 0 (.slice Ao66 y326.length co66) rfl
            have e3 := blk_put e2 1 (.slice (some ⟨go8, 0, none⟩) x7_2.toNat co22) rfl
            have r1 := Kd.R_set hRt BK314.out (by decide) 0 (.slice Ao66 y326.length co66)
            have r2 := Kd.R_set r1 g1 (by decide) 1 (.slice (some ⟨go8, 0, none⟩) x7_2.toNat co22)
            have r3 := Kd.R_set r2 e1 (by decide) 0 (.slice Ao66 y326.length co66)
            have r4 := Kd.R_set r3 e2 (by decide) 1 (.slice (some ⟨go8, 0, none⟩) x7_2.toNat co22)
            rw [← Ny329.out] at r4
            have hyl : y329.length = x7_2.toNat := by rw [Ny329.out, List.length_take]; omega
            have m1 := Kd.N_far (p := ⟨gb314, 0, none⟩) HO328.out (fun k_ hk => by exact hk.2.2.2.2) (.slice Ao66 y326.length co66)
            have m2 := Kd.N_far (p := ⟨gb314, 1, none⟩) m1 (fun k_ hk => by exact hk.2.2.2.2) (.slice (some ⟨go8, 0, none⟩) x7_2.toNat co22)
            have m3 := Kd.N_far (p := ⟨gb306, 0, none⟩) m2 (fun k_ hk => by exact hk.2.2.2.1) (.slice Ao66 y326.length co66)
            have m4 := Kd.N_far (p := ⟨gb306, 1, none⟩) m3 (fun k_ hk => by exact hk.2.2.2.1) (.slice (some ⟨go8, 0, none⟩) x7_2.toNat co22)
            have b4 := Q6 (Q6 (Q6 (Q6 HB.out GE314.out (j := 0) (v := (.slice Ao66 y326.length co66))) GE314.out (j := 1) (v := (.slice (some ⟨go8, 0, none⟩) x7_2.toNat co22))) GE306.out (j := 0) (v := (.slice Ao66 y326.length co66))) GE306.out (j := 1) (v := (.slice (some ⟨go8, 0, none⟩) x7_2.toNat co22))
            have k0 := blk_cell e1 0
            have k1 := blk_cell e2 1
            have k2 := blk_frozen e1 0
            have k3 := blk_frozen e2 1
            simp only [List.getElem?_toArray, List.getElem?_cons_zero, List.getElem?_cons_succ, Q1,Q2,Q3] at k0 k1
            have E3 := Q4 e3
            have R4 := Q4 r4
            have M4 := Q4 m4
            have B4 := Q4 b4
            have HYL := Q4 hyl
            clear g1 g2 e0 e1 e2 e3 r1 r2 r3 r4 m1 m2 m3 m4 b4 hRt hco qle hyl
            go_wp2
            refine bodyPost_ret (results_ct rfl _ _ gb306 27 #[.slice Ao66 y326.length co66, .slice (some ⟨go8, 0, none⟩) x7_2.toNat co22] (0, 0) _ rfl E3.out Try.underlying27 rfl (by kernel_rfl)) rfl ?_
            exact ⟨_, _, rfl, Kd.V_mono (Kd.N_V M4.out) (fun k_ hk => hk.1), Kd.V_mono (Kd.R_V R4.out) (fun k_ hk => .inr hk), B4.out⟩
           ·rw [if_neg c62] at H
            exact absurd H (by simp)
          ·rw [if_neg c61] at H
           exact absurd H (by simp)
         ·rw [if_neg c60] at H
          exact absurd H (by simp)
   ·rw [if_neg c7] at H
    exact absurd H (by simp)
  ·rw [if_neg c6] at H
   exact absurd H (by simp)
 ·replace c4 := Bool.eq_false_iff.mpr c4
  subst c4
  have H1 : (some (l0_0, l0_1, 1)) = some (r1, r2, r3) := by rw [if_neg (show ¬ (false = true) by decide)] at H; exact H
  clear H
  have H := H1
  clear H1
  simp only [Option.some.injEq, Prod.mk.injEq] at H
  obtain ⟨rfl, rfl, rfl⟩ := H
  go_enter Try.func19, Try.ntmps19
  go_wp2_with (first|((with_reducible refine gate_dst (N := 2) rfl ?_); refine box_event ?hg (N := 2) ?hd (cs := #[.slice A0_0 l0_0.length c0_0, .slice A0_1 l0_1.length c0_1]) (t := 27) ?hr ?_; (case hd => rfl); (case hg => rfl); (case hr => first|(go_simp; done)|(go_simp; rfl)); intro gb305 hg w73 hbox hb; have n0_ := Q4 (Kd.V_below (Kd.V_elderB (by (with_reducible repeat (first|apply Kd.V_alloc|apply Kd.V_drewN|apply Kd.V_drew)); exact HO0_0.out) gb305 (Nat.le_of_eq hg.symm)) hb); have n1_ := Q4 (Kd.V_below (Kd.V_elderB (by (with_reducible repeat (first|apply Kd.V_alloc|apply Kd.V_drewN|apply Kd.V_drew)); exact HO0_1.out) gb305 (Nat.le_of_eq hg.symm)) hb); have n2_ := Q4 (below_step (by repeat (first|(with_reducible first|exact HB.out|apply Q8|apply Q5|apply Q9)|exact HB.out)) hb); have n3_ := Q4 (hbox); have n4_ := Q4 ((by rw [hg]; exact (below_size (by repeat (first|(with_reducible first|exact HB.out|apply Q8|apply Q5|apply Q9)|exact HB.out))) : w.heap.size ≤ gb305)); have n5_ := Q4 ((by rw [hg]; exact (below_size (by repeat (first|(with_reducible first|exact HB.out|apply Q8|apply Q5|apply Q9)|exact HB.out))) : w.heap.size ≤ gb305)); clear HO0_0; clear HO0_1; clear HB; have HO0_0 := n0_; have HO0_1 := n1_; have HB := n2_; have BK305 := n3_; have GW305 := n4_; have GE305 := n5_; clear n0_ n1_ n2_ n3_ n4_ n5_; clear hb hbox hg)|((with_reducible refine gate_dst (N := 4) rfl ?_); refine box_event ?hg (N := 4) ?hd (cs := #[.slice none 0 0, .slice none 0 0]) (t := 27) ?hr ?_; (case hd => rfl); (case hg => rfl); (case hr => first|(go_simp; done)|(go_simp; rfl)); intro gb306 hg w74 hbox hb; have n0_ := Q4 (Kd.V_below (Kd.V_elderB (by (with_reducible repeat (first|apply Kd.V_alloc|apply Kd.V_drewN|apply Kd.V_drew)); exact HO0_0.out) gb306 (Nat.le_of_eq hg.symm)) hb); have n1_ := Q4 (Kd.V_below (Kd.V_elderB (by (with_reducible repeat (first|apply Kd.V_alloc|apply Kd.V_drewN|apply Kd.V_drew)); exact HO0_1.out) gb306 (Nat.le_of_eq hg.symm)) hb); have n2_ := Q4 (blk_below (g := gb305) (o := .cells #[.slice A0_0 l0_0.length c0_0, .slice A0_1 l0_1.length c0_1] 27 (0, 0)) (by (with_reducible repeat (first|refine Qa ?_ _|refine Qb ?_|refine Q7 ?_ _)); exact BK305.out) hb); have n3_ := Q4 (below_step (by repeat (first|(with_reducible first|exact HB.out|apply Q8|apply Q5|apply Q9|refine Q6 ?_ GE305.out)|exact HB.out)) hb); have n4_ := Q4 (hbox); have n5_ := Q4 ((by rw [hg]; exact (below_size (by repeat (first|(with_reducible first|exact HB.out|apply Q8|apply Q5|apply Q9|refine Q6 ?_ GE305.out)|exact HB.out))) : w.heap.size ≤ gb306)); have n6_ := Q4 ((by rw [hg]; exact (below_size (by repeat (first|(with_reducible first|exact HB.out|apply Q8|apply Q5|apply Q9|refine Q6 ?_ GE305.out)|exact HB.out))) : w.heap.size ≤ gb306)); have n7_ := Q4 ((by rw [hg]; exact Nat.ne_of_lt (blk_lt (g := gb305) (o := .cells #[.slice A0_0 l0_0.length c0_0, .slice A0_1 l0_1.length c0_1] 27 (0, 0)) (by (with_reducible repeat (first|refine Qa ?_ _|refine Qb ?_|refine Q7 ?_ _)); exact BK305.out)) : gb305 ≠ gb306)); have n8_ := Q4 ((by rw [hg]; exact Nat.ne_of_gt (blk_lt (g := gb305) (o := .cells #[.slice A0_0 l0_0.length c0_0, .slice A0_1 l0_1.length c0_1] 27 (0, 0)) (by (with_reducible repeat (first|refine Qa ?_ _|refine Qb ?_|refine Q7 ?_ _)); exact BK305.out)) : gb306 ≠ gb305)); clear HO0_0; clear HO0_1; clear BK305; clear HB; have HO0_0 := n0_; have HO0_1 := n1_; have BK305 := n2_; have HB := n3_; have BK306 := n4_; have GW306 := n5_; have GE306 := n6_; have NB305_306 := n7_; have NB306_305 := n8_; clear n0_ n1_ n2_ n3_ n4_ n5_ n6_ n7_ n8_; clear hb hbox hg; have hnb75 := NB305_306.out; have hnc75 := NB306_305.out; have hcz76_0 : w74.cell? ⟨gb305, 0, none⟩ = some (.slice A0_0 l0_0.length c0_0) := (blk_cell BK305.out 0).trans rfl; have hcz76_1 : w74.cell? ⟨gb305, 1, none⟩ = some (.slice A0_1 l0_1.length c0_1) := (blk_cell BK305.out 1).trans rfl; have hfz76_0 := blk_frozen BK305.out 0; have hfz76_1 := blk_frozen BK305.out 1)|((with_reducible refine gate_callee (f := 36) rfl ?_); refine goesL_ (some 10) rfl rfl Try.func36 (by kernel_rfl) rfl #[.agg #[.slice A0_0 l0_0.length c0_0, .slice A0_1 l0_1.length c0_1], .int .i64 a1] rfl (by (try simp only [List.map_toArray, List.map_cons, List.map_nil]); first | done|rfl|(simp only [List.length_drop, List.length_take]; rfl)) ?_; (with_reducible refine (curtilageref05_there.calls _ _ l0_0 _ _ l0_1 a1 false _ ?side1 ?side2 ?side3 ?side4 A3.out).mono ?_); (case side1 => repeat (first|exact (Kd.V_reads' HO0_0.out).2.2|(with_reducible refine Kd.C_alloc ?_ _)|(with_reducible refine Kd.C_drewN ?_ _)|(with_reducible refine Kd.C_drew ?_))); (case side2 => exact (Kd.V_reads' HO0_0.out).2.1); (case side3 => repeat (first|exact (Kd.V_reads' HO0_1.out).2.2|(with_reducible refine Kd.C_alloc ?_ _)|(with_reducible refine Kd.C_drewN ?_ _)|(with_reducible refine Kd.C_drew ?_))); (case side4 => exact (Kd.V_reads' HO0_1.out).2.1); rintro e w77 ⟨rfl, hb⟩; refine ⟨_, rfl, ?_⟩; have n0_ := Q4 (Kd.V_below (by (with_reducible repeat (first|apply Kd.V_alloc|apply Kd.V_drewN|apply Kd.V_drew)); exact HO0_0.out) hb); have n1_ := Q4 (Kd.V_below (by (with_reducible repeat (first|apply Kd.V_alloc|apply Kd.V_drewN|apply Kd.V_drew)); exact HO0_1.out) hb); have n2_ := Q4 (blk_below (g := gb305) (o := .cells #[.slice A0_0 l0_0.length c0_0, .slice A0_1 l0_1.length c0_1] 27 (0, 0)) (by (with_reducible repeat (first|refine Qa ?_ _|refine Qb ?_|refine Q7 ?_ _)); exact BK305.out) hb); have n3_ := Q4 (blk_below (g := gb306) (o := .cells #[.slice none 0 0, .slice none 0 0] 27 (0, 0)) (by (with_reducible repeat (first|refine Qa ?_ _|refine Qb ?_|refine Q7 ?_ _)); exact BK306.out) hb); have n4_ := Q4 (below_step (by repeat (first|(with_reducible first|exact HB.out|apply Q8|apply Q5|apply Q9|refine Q6 ?_ GE305.out|refine Q6 ?_ GE306.out)|exact HB.out)) hb); clear HO0_0; clear HO0_1; clear BK305; clear BK306; clear HB; have HO0_0 := n0_; have HO0_1 := n1_; have BK305 := n2_; have BK306 := n3_; have HB := n4_; clear n0_ n1_ n2_ n3_ n4_;(try clear hb);(try clear hb2);(try clear hk);(try clear hi); have hcz78_0 : w77.cell? ⟨gb305, 0, none⟩ = some (.slice A0_0 l0_0.length c0_0) := (blk_cell BK305.out 0).trans rfl; have hcz78_1 : w77.cell? ⟨gb305, 1, none⟩ = some (.slice A0_1 l0_1.length c0_1) := (blk_cell BK305.out 1).trans rfl; have hfz78_0 := blk_frozen BK305.out 0; have hfz78_1 := blk_frozen BK305.out 1; have hcz79_0 : w77.cell? ⟨gb306, 0, none⟩ = some (.slice none 0 0) := (blk_cell BK306.out 0).trans rfl; have hcz79_1 : w77.cell? ⟨gb306, 1, none⟩ = some (.slice none 0 0) := (blk_cell BK306.out 1).trans rfl; have hfz79_0 := blk_frozen BK306.out 0; have hfz79_1 := blk_frozen BK306.out 1))
  refine bodyPost_ret (results_ct rfl _ _ gb306 27 #[.slice A0_0 l0_0.length c0_0, .slice A0_1 l0_1.length c0_1] (0, 0) _ rfl (by (with_reducible repeat (first|refine Qa ?_ _|refine Qb ?_|refine Q7 ?_ _)); refine blk_put (cs := #[.slice A0_0 l0_0.length c0_0, .slice none 0 0]) ?_ 1 _ rfl; (with_reducible repeat (first|refine Qa ?_ _|refine Qb ?_|refine Q7 ?_ _)); refine blk_put (cs := #[.slice none 0 0, .slice none 0 0]) ?_ 0 _ rfl; (with_reducible repeat (first|refine Qa ?_ _|refine Qb ?_|refine Q7 ?_ _)); exact BK306.out) Try.underlying27 rfl (by kernel_rfl)) rfl ?_
  exact ⟨_, _, by first|rfl|(simp [errW_none, errW_some] <;> rfl)|(simp [*, errW_none, errW_some] <;> rfl), by (with_reducible repeat (first|apply Kd.V_alloc|apply Kd.V_drewN|apply Kd.V_drew)); exact Kd.V_mono (Kd.V_far (p := ⟨gb306, 1, none⟩) (Kd.V_far (p := ⟨gb306, 0, none⟩) (Kd.V_mono HO0_0.out (fun k_ hk => (⟨hk, hk.2⟩ : _ ∧ k_ ≠ gb306))) (fun _ hk => hk.2) (.slice A0_0 l0_0.length c0_0)) (fun _ hk => hk.2) (.slice A0_1 l0_1.length c0_1)) (fun _ hk => hk.1.1.1), by (with_reducible repeat (first|apply Kd.V_alloc|apply Kd.V_drewN|apply Kd.V_drew)); exact Kd.V_mono (Kd.V_far (p := ⟨gb306, 1, none⟩) (Kd.V_far (p := ⟨gb306, 0, none⟩) (Kd.V_mono HO0_1.out (fun k_ hk => (⟨hk, hk.2⟩ : _ ∧ k_ ≠ gb306))) (fun _ hk => hk.2) (.slice A0_0 l0_0.length c0_0)) (fun _ hk => hk.2) (.slice A0_1 l0_1.length c0_1)) (fun _ hk => hk.1.1.1), by repeat (first|(with_reducible first|exact HB.out|apply Q8|apply Q5|apply Q9|refine Q6 ?_ GE305.out|refine Q6 ?_ GE306.out)|exact HB.out)⟩

/-! ### curtilageref05_Get: function 21 -/
def curtilageref05_Get.f (l0_0 : List (List (S57))) (l0_1 : List Int) (a1 : Int) : Option ((List (S57)) × Int) := (curtilageref05_there.f l0_0 l0_1 a1).bind fun t333 => (if t333 = true then (if 0 ≤ a1 then (if a1 < (l0_0.length : Int) then (some (rd_L3 l0_0 a1, 0)) else (none)) else (none)) else (some (([] : List (S57)), 1)))
set_option maxHeartbeats 8000000 in
set_option maxRecDepth 100000 in
theorem curtilageref05_Get.calls (P0_0_ : Nat → Prop) (A0_0 : Option Addr) (c0_0 : Nat) (l0_0 : List (List (S57))) (A0_1 : Option Addr) (c0_1 : Nat) (l0_1 : List Int) (a1 : Int) (r1 : List (S57)) (r2 : Int) (w : World) (hs0_0 : Kd.V (Kd.slice 57 k57) 29 w w.heap.size (fun k_ => P0_0_ k_) (.slice A0_0 l0_0.length c0_0) l0_0) (hr0_1 : Kd.C (Kd.int .i64) w A0_1 l0_1.length l0_1) (hc0_1 : l0_1.length ≤ c0_1) (h : curtilageref05_Get.f l0_0 l0_1 a1 = some (r1, r2)) :
  Calls Try.prog 21 #[.agg #[.slice A0_0 l0_0.length c0_0, .slice A0_1 l0_1.length c0_1], .int .i64 a1] w fun e w' => ∃ v0_ : Value, e = .returned (.tuple #[v0_, .int .i64 r2]) ∧ Kd.V k57 57 w' w.heap.size (fun k_ => (P0_0_ k_ ∨ w.heap.size ≤ k_)) v0_ r1 ∧ Below w.heap.size w w' := by
 have hu27 := Try.underlying27
 have HO0_0 := Q4 (show Kd.V (Kd.slice 57 k57) 29 w w.heap.size (fun k_ => (P0_0_ k_ ∨ w.heap.size ≤ k_)) (.slice A0_0 l0_0.length c0_0) l0_0 from Kd.V_mono hs0_0 (fun k_ hk => .inl hk))
 have HR0_1 := Q4 hr0_1
 have HC0_1 := Q4 hc0_1
 clear hr0_1 hc0_1
 have HB := Q4 (Below.refl w.heap.size w)
 have H : ((curtilageref05_there.f l0_0 l0_1 a1).bind fun t333 => (if t333 = true then (if 0 ≤ a1 then (if a1 < (l0_0.length : Int) then (some (rd_L3 l0_0 a1, 0)) else (none)) else (none)) else (some (([] : List (S57)), 1)))) = some (r1, r2) := h
 clear h
 replace H := Option.bind_eq_some_iff.mp H
 obtain ⟨t333, A30, H⟩ := H
 replace H : (if t333 = true then (if 0 ≤ a1 then (if a1 < (l0_0.length : Int) then (some (rd_L3 l0_0 a1, 0)) else (none)) else (none)) else (some (([] : List (S57)), 1))) = some (r1, r2) := H
 have A3 := Q4 A30
 clear A30
 by_cases c4 : t333 = true
 ·subst c4
  have H1 : (if 0 ≤ a1 then (if a1 < (l0_0.length : Int) then (some (rd_L3 l0_0 a1, 0)) else (none)) else (none)) = some (r1, r2) := by rw [if_pos rfl] at H; exact H
  clear H
  have H := H1
  clear H1
  by_cases c5 : 0 ≤ a1
  ·rw [if_pos c5] at H
   have c5b0 : decide (0 ≤ a1) = true := decide_eq_true c5
   clear c5
   by_cases c6 : a1 < (l0_0.length : Int)
   ·rw [if_pos c6] at H
    have c6b0 : decide (a1 < (l0_0.length : Int)) = true := decide_eq_true c6
    clear c6
    simp only [Option.some.injEq, Prod.mk.injEq] at H
    obtain ⟨rfl, rfl⟩ := H
    go_enter Try.func21, Try.ntmps21
    go_wp2_with (first|((with_reducible refine gate_dst (N := 2) rfl ?_); refine box_event ?hg (N := 2) ?hd (cs := #[.slice A0_0 l0_0.length c0_0, .slice A0_1 l0_1.length c0_1]) (t := 27) ?hr ?_; (case hd => rfl); (case hg => rfl); (case hr => first|(go_simp; done)|(go_simp; rfl)); intro gb332 hg w7 hbox hb; have n0_ := Q4 (Kd.V_below (Kd.V_elderB (by (with_reducible repeat (first|apply Kd.V_alloc|apply Kd.V_drewN|apply Kd.V_drew)); exact HO0_0.out) gb332 (Nat.le_of_eq hg.symm)) hb); have n1_ := Q4 (below_step (by repeat (first|(with_reducible first|exact HB.out|apply Q8|apply Q5|apply Q9)|exact HB.out)) hb); have n2_ := Q4 (hbox); have n3_ := Q4 ((by rw [hg]; exact (below_size (by repeat (first|(with_reducible first|exact HB.out|apply Q8|apply Q5|apply Q9)|exact HB.out))) : w.heap.size ≤ gb332)); have n4_ := Q4 ((by rw [hg]; exact (below_size (by repeat (first|(with_reducible first|exact HB.out|apply Q8|apply Q5|apply Q9)|exact HB.out))) : w.heap.size ≤ gb332)); clear HO0_0; clear HB; have HO0_0 := n0_; have HB := n1_; have BK332 := n2_; have GW332 := n3_; have GE332 := n4_; clear n0_ n1_ n2_ n3_ n4_; clear hb hbox hg; have hcz8_0 : w7.cell? ⟨gb332, 0, none⟩ = some (.slice A0_0 l0_0.length c0_0) := (blk_cell BK332.out 0).trans rfl; have hcz8_1 : w7.cell? ⟨gb332, 1, none⟩ = some (.slice A0_1 l0_1.length c0_1) := (blk_cell BK332.out 1).trans rfl; have hfz8_0 := blk_frozen BK332.out 0; have hfz8_1 := blk_frozen BK332.out 1)|((with_reducible refine gate_callee (f := 36) rfl ?_); refine goesL_ (some 8) rfl rfl Try.func36 (by kernel_rfl) rfl #[.agg #[.slice A0_0 l0_0.length c0_0, .slice A0_1 l0_1.length c0_1], .int .i64 a1] rfl (by (try simp only [List.map_toArray, List.map_cons, List.map_nil]); first | done|rfl|(simp only [List.length_drop, List.length_take]; rfl)) ?_; (with_reducible refine (curtilageref05_there.calls _ _ l0_0 _ _ l0_1 a1 true _ ?side1 ?side2 ?side3 ?side4 A3.out).mono ?_); (case side1 => repeat (first|exact (Kd.V_reads' HO0_0.out).2.2|(with_reducible refine Kd.C_alloc ?_ _)|(with_reducible refine Kd.C_drewN ?_ _)|(with_reducible refine Kd.C_drew ?_))); (case side2 => exact (Kd.V_reads' HO0_0.out).2.1); (case side3 => repeat (first|exact (Kd.C_below HR0_1.out HB.out)|(with_reducible refine Kd.C_alloc ?_ _)|(with_reducible refine Kd.C_drewN ?_ _)|(with_reducible refine Kd.C_drew ?_))); (case side4 => exact HC0_1.out); rintro e w9 ⟨rfl, hb⟩; refine ⟨_, rfl, ?_⟩; have n0_ := Q4 (Kd.V_below (by (with_reducible repeat (first|apply Kd.V_alloc|apply Kd.V_drewN|apply Kd.V_drew)); exact HO0_0.out) hb); have n1_ := Q4 (blk_below (g := gb332) (o := .cells #[.slice A0_0 l0_0.length c0_0, .slice A0_1 l0_1.length c0_1] 27 (0, 0)) (by (with_reducible repeat (first|refine Qa ?_ _|refine Qb ?_|refine Q7 ?_ _)); exact BK332.out) hb); have n2_ := Q4 (below_step (by repeat (first|(with_reducible first|exact HB.out|apply Q8|apply Q5|apply Q9|refine Q6 ?_ GE332.out)|exact HB.out)) hb); clear HO0_0; clear BK332; clear HB; have HO0_0 := n0_; have BK332 := n1_; have HB := n2_; clear n0_ n1_ n2_;(try clear hb);(try clear hb2);(try clear hk);(try clear hi); have hcz10_0 : w9.cell? ⟨gb332, 0, none⟩ = some (.slice A0_0 l0_0.length c0_0) := (blk_cell BK332.out 0).trans rfl; have hcz10_1 : w9.cell? ⟨gb332, 1, none⟩ = some (.slice A0_1 l0_1.length c0_1) := (blk_cell BK332.out 1).trans rfl; have hfz10_0 := blk_frozen BK332.out 0; have hfz10_1 := blk_frozen BK332.out 1; have p334 : 0 ≤ (a1 : Int) := Qc (by first|(with_reducible assumption)|assumption); have q334 : a1 < (l0_0.length : Int) := Qc (by first|(with_reducible assumption)|assumption); obtain ⟨ad334, A334_0, c334_0, e334, hx334_0, hl334_0, hi334_0⟩ := at_L3 (Kd.V_reads' HO0_0.out).2.2 a1 p334 q334; cases e334; obtain ⟨ce334, hce334, hMe334, hcc334⟩ := Kd.V_get HO0_0.out [] a1 p334 (by first|exact q334|exact Qc (by first|(with_reducible assumption)|assumption)|(have e_ := (Kd.V_reads' HO0_0.out).1; omega)); obtain ⟨ua334_0, uc334_0, rfl, ul334_0, ge334_0⟩ := Kd.FK_slice_open hMe334; have hv334_0 := hcc334 0 _ rfl; rw [Nat.add_zero, show ((Kd.slice 57 k57)).sz = 1 from rfl, Nat.mul_one] at hv334_0; replace hv334_0 := Option.some.inj (hv334_0.symm.trans hx334_0); injection hv334_0 with hva_ hvn_ hvc_; rw [hva_] at ge334_0; rw [hvc_] at ul334_0; have HL334_0 := Q4 (show Kd.V k57 57 _ w.heap.size _ _ (rd_L3 l0_0 a1) from Kd.V_mk ul334_0 ge334_0); clear hva_ hvn_ hvc_ ge334_0 ul334_0; clear hcc334 hce334; have HR334_0 := Q4 hi334_0; have HC334_0 := Q4 hl334_0; clear hi334_0 hl334_0; replace p334 := eq_true p334; replace q334 := eq_true q334))
    go_ret2
    exact ⟨_, by first|rfl|(simp [errW_none, errW_some] <;> rfl)|(simp [*, errW_none, errW_some] <;> rfl), by (with_reducible repeat (first|apply Kd.V_alloc|apply Kd.V_drewN|apply Kd.V_drew)); exact Kd.V_mono HL334_0.out (fun _ hk => hk.1), by repeat (first|(with_reducible first|exact HB.out|apply Q8|apply Q5|apply Q9|refine Q6 ?_ GE332.out)|exact HB.out)⟩
   ·rw [if_neg c6] at H
    exact absurd H (by simp)
  ·rw [if_neg c5] at H
   exact absurd H (by simp)
 ·replace c4 := Bool.eq_false_iff.mpr c4
  subst c4
  have H1 : (some (([] : List (S57)), 1)) = some (r1, r2) := by rw [if_neg (show ¬ (false = true) by decide)] at H; exact H
  clear H
  have H := H1
  clear H1
  simp only [Option.some.injEq, Prod.mk.injEq] at H
  obtain ⟨rfl, rfl⟩ := H
  go_enter Try.func21, Try.ntmps21
  go_wp2_with (first|((with_reducible refine gate_dst (N := 2) rfl ?_); refine box_event ?hg (N := 2) ?hd (cs := #[.slice A0_0 l0_0.length c0_0, .slice A0_1 l0_1.length c0_1]) (t := 27) ?hr ?_; (case hd => rfl); (case hg => rfl); (case hr => first|(go_simp; done)|(go_simp; rfl)); intro gb332 hg w11 hbox hb; have n0_ := Q4 (Kd.V_below (Kd.V_elderB (by (with_reducible repeat (first|apply Kd.V_alloc|apply Kd.V_drewN|apply Kd.V_drew)); exact HO0_0.out) gb332 (Nat.le_of_eq hg.symm)) hb); have n1_ := Q4 (below_step (by repeat (first|(with_reducible first|exact HB.out|apply Q8|apply Q5|apply Q9)|exact HB.out)) hb); have n2_ := Q4 (hbox); have n3_ := Q4 ((by rw [hg]; exact (below_size (by repeat (first|(with_reducible first|exact HB.out|apply Q8|apply Q5|apply Q9)|exact HB.out))) : w.heap.size ≤ gb332)); have n4_ := Q4 ((by rw [hg]; exact (below_size (by repeat (first|(with_reducible first|exact HB.out|apply Q8|apply Q5|apply Q9)|exact HB.out))) : w.heap.size ≤ gb332)); clear HO0_0; clear HB; have HO0_0 := n0_; have HB := n1_; have BK332 := n2_; have GW332 := n3_; have GE332 := n4_; clear n0_ n1_ n2_ n3_ n4_; clear hb hbox hg; have hcz12_0 : w11.cell? ⟨gb332, 0, none⟩ = some (.slice A0_0 l0_0.length c0_0) := (blk_cell BK332.out 0).trans rfl; have hcz12_1 : w11.cell? ⟨gb332, 1, none⟩ = some (.slice A0_1 l0_1.length c0_1) := (blk_cell BK332.out 1).trans rfl; have hfz12_0 := blk_frozen BK332.out 0; have hfz12_1 := blk_frozen BK332.out 1)|((with_reducible refine gate_callee (f := 36) rfl ?_); refine goesL_ (some 8) rfl rfl Try.func36 (by kernel_rfl) rfl #[.agg #[.slice A0_0 l0_0.length c0_0, .slice A0_1 l0_1.length c0_1], .int .i64 a1] rfl (by (try simp only [List.map_toArray, List.map_cons, List.map_nil]); first | done|rfl|(simp only [List.length_drop, List.length_take]; rfl)) ?_; (with_reducible refine (curtilageref05_there.calls _ _ l0_0 _ _ l0_1 a1 false _ ?side1 ?side2 ?side3 ?side4 A3.out).mono ?_); (case side1 => repeat (first|exact (Kd.V_reads' HO0_0.out).2.2|(with_reducible refine Kd.C_alloc ?_ _)|(with_reducible refine Kd.C_drewN ?_ _)|(with_reducible refine Kd.C_drew ?_))); (case side2 => exact (Kd.V_reads' HO0_0.out).2.1); (case side3 => repeat (first|exact (Kd.C_below HR0_1.out HB.out)|(with_reducible refine Kd.C_alloc ?_ _)|(with_reducible refine Kd.C_drewN ?_ _)|(with_reducible refine Kd.C_drew ?_))); (case side4 => exact HC0_1.out); rintro e w13 ⟨rfl, hb⟩; refine ⟨_, rfl, ?_⟩; have n0_ := Q4 (Kd.V_below (by (with_reducible repeat (first|apply Kd.V_alloc|apply Kd.V_drewN|apply Kd.V_drew)); exact HO0_0.out) hb); have n1_ := Q4 (blk_below (g := gb332) (o := .cells #[.slice A0_0 l0_0.length c0_0, .slice A0_1 l0_1.length c0_1] 27 (0, 0)) (by (with_reducible repeat (first|refine Qa ?_ _|refine Qb ?_|refine Q7 ?_ _)); exact BK332.out) hb); have n2_ := Q4 (below_step (by repeat (first|(with_reducible first|exact HB.out|apply Q8|apply Q5|apply Q9|refine Q6 ?_ GE332.out)|exact HB.out)) hb); clear HO0_0; clear BK332; clear HB; have HO0_0 := n0_; have BK332 := n1_; have HB := n2_; clear n0_ n1_ n2_;(try clear hb);(try clear hb2);(try clear hk);(try clear hi)))
  go_ret2
  exact ⟨_, by first|rfl|(simp [errW_none, errW_some] <;> rfl)|(simp [*, errW_none, errW_some] <;> rfl), Kd.V_nil _ _ _ _ _, by repeat (first|(with_reducible first|exact HB.out|apply Q8|apply Q5|apply Q9|refine Q6 ?_ GE332.out)|exact HB.out)⟩

/-! ### curtilageref05_Used: function 24 -/
def curtilageref05_Used.l0 : Nat → Int → Int → List (List (S57)) → List Int → Option (Int)
 | 0, _, _, _, _ => none
 | k + 1, x3, x4, x336000, x336001 => if x4 < (x336001.length : Int) then (if 0 ≤ x4 then (if (rd x336001 x4) = 0 then (curtilageref05_Used.l0 k x3 (wrap64 (x4 + 1)) x336000 x336001) else (curtilageref05_Used.l0 k (wrap64 (x3 + 1)) (wrap64 (x4 + 1)) x336000 x336001)) else (none)) else (some x3)
def curtilageref05_Used.f (k : Nat) (l0_0 : List (List (S57))) (l0_1 : List Int) : Option (Int) := curtilageref05_Used.l0 k 0 0 l0_0 l0_1
set_option maxHeartbeats 8000000 in
set_option maxRecDepth 100000 in
theorem curtilageref05_Used.calls (k : Nat) (A0_0 : Option Addr) (c0_0 : Nat) (l0_0 : List (List (S57))) (A0_1 : Option Addr) (c0_1 : Nat) (l0_1 : List Int) (r : Int) (w : World) (hr0_0 : Kd.C (Kd.slice 57 k57) w A0_0 l0_0.length l0_0) (hc0_0 : l0_0.length ≤ c0_0) (hr0_1 : Kd.C (Kd.int .i64) w A0_1 l0_1.length l0_1) (hc0_1 : l0_1.length ≤ c0_1) (h : curtilageref05_Used.f k l0_0 l0_1 = some r) :
  Calls Try.prog 24 #[.agg #[.slice A0_0 l0_0.length c0_0, .slice A0_1 l0_1.length c0_1]] w fun e w' => e = .returned (.int .i64 r) ∧ Below w.heap.size w w' := by
 have hu27 := Try.underlying27
 have HR0_0 := Q4 hr0_0
 have HC0_0 := Q4 hc0_0
 clear hr0_0 hc0_0
 have HR0_1 := Q4 hr0_1
 have HC0_1 := Q4 hc0_1
 clear hr0_1 hc0_1
 have HB := Q4 (Below.refl w.heap.size w)
 have H : (curtilageref05_Used.l0 k 0 0 l0_0 l0_1) = some r := h
 clear h
 have H' := Q4 H
 clear H
 go_enter Try.func24, Try.ntmps24
 go_wp2_with (first|((with_reducible refine gate_dst (N := 1) rfl ?_); refine box_event ?hg (N := 1) ?hd (cs := #[.slice A0_0 l0_0.length c0_0, .slice A0_1 l0_1.length c0_1]) (t := 27) ?hr ?_; (case hd => rfl); (case hg => rfl); (case hr => first|(go_simp; done)|(go_simp; rfl)); intro gb335 hg w2 hbox hb; have n0_ := Q4 (below_step (by repeat (first|(with_reducible first|exact HB.out|apply Q8|apply Q5|apply Q9)|exact HB.out)) hb); have n1_ := Q4 (hbox); have n2_ := Q4 ((by rw [hg]; exact (below_size (by repeat (first|(with_reducible first|exact HB.out|apply Q8|apply Q5|apply Q9)|exact HB.out))) : w.heap.size ≤ gb335)); have n3_ := Q4 ((by rw [hg]; exact (below_size (by repeat (first|(with_reducible first|exact HB.out|apply Q8|apply Q5|apply Q9)|exact HB.out))) : w.heap.size ≤ gb335)); clear HB; have HB := n0_; have BK335 := n1_; have GW335 := n2_; have GE335 := n3_; clear n0_ n1_ n2_ n3_; clear hb hbox hg))
 go_loopg [3, 4] k (fun kq v3 v4 w' => ∃ (x3_1 : Int) (x4_1 : Int), v3 = .int .i64 x3_1 ∧ v4 = .int .i64 x4_1 ∧ Aside0 (curtilageref05_Used.l0 kq x3_1 x4_1 l0_0 l0_1 = some r) ∧ Aside0 (kq ≤ k) ∧ Aside0 (w'.heap[gb335]? = some (.cells #[(.slice A0_0 l0_0.length c0_0), (.slice A0_1 l0_1.length c0_1)] 27 (0, 0))) ∧ Aside0 (Below w.heap.size w w'))
 case atStart => exact ⟨(0), (0), (by first|rfl|(simp; done)|(simp [*]; done)), (by first|rfl|(simp; done)|(simp [*]; done)), H', ⟨Nat.le_refl _⟩, ⟨by (with_reducible repeat (first|refine Qa ?_ _|refine Qb ?_|refine Q7 ?_ _)); exact BK335.out⟩, ⟨by repeat (first|(with_reducible first|exact HB.out|apply Q8|apply Q5|apply Q9|refine Q6 ?_ GE335.out)|exact HB.out)⟩⟩
 case round =>
  clear H'
  (try clear c2);(try clear p2)
  obtain ⟨x3_1, x4_1, rfl, rfl, HA, HK1, BK335, HB⟩ := hrel
  cases gk with
  | zero => exact absurd HA.out (by simp [curtilageref05_Used.l0])
  | succ k1 =>
   have H := HA.out
   clear HA
   simp only [curtilageref05_Used.l0] at H
   by_cases c3 : x4_1 < (l0_1.length : Int)
   ·rw [if_pos c3] at H
    have c3b0 : decide (x4_1 < (l0_1.length : Int)) = true := decide_eq_true c3
    clear c3
    by_cases c4 : 0 ≤ x4_1
    ·rw [if_pos c4] at H
     have c4b0 : decide (0 ≤ x4_1) = true := decide_eq_true c4
     clear c4
     by_cases c5 : (rd l0_1 x4_1) = 0
     ·rw [if_pos c5] at H
      have c5b0 : ((rd l0_1 x4_1) == 0) = true := beq_iff_eq.mpr c5
      have c5b1 : ((rd l0_1 x4_1) != 0) = false := bne_eq_false_iff_eq.mpr c5
      clear c5
      have H' := Q4 H
      clear H
      have hcz6_0 : wr.cell? ⟨gb335, 0, none⟩ = some (.slice A0_0 l0_0.length c0_0) := (blk_cell BK335.out 0).trans rfl
      have hcz6_1 : wr.cell? ⟨gb335, 1, none⟩ = some (.slice A0_1 l0_1.length c0_1) := (blk_cell BK335.out 1).trans rfl
      have hfz6_0 := blk_frozen BK335.out 0
      have hfz6_1 := blk_frozen BK335.out 1
      have p336 : 0 ≤ (x4_1 : Int) := Qc (by first|(with_reducible assumption)|assumption)
      have q336 : x4_1 < (l0_1.length : Int) := Qc (by first|(with_reducible assumption)|assumption)
      obtain ⟨ad336, e336, hx336_0⟩ := Kd.at_int HR0_1.out x4_1 p336 q336
      cases e336
      replace hx336_0 := (HB.out.cell (World.block_lt_of_cell? w _ hx336_0)).trans hx336_0
      replace p336 := eq_true p336
      replace q336 := eq_true q336
      go_wp2
      go_roundg k1
      case measure => have := HK1.out; omega
      case rel => exact ⟨(x3_1), (wrap64 (x4_1 + 1)), (by first|rfl|(simp; done)|(simp [*]; done)), (by first|rfl|(simp; done)|(simp [*]; done)), H', ⟨by have := HK1.out; omega⟩, ⟨by (with_reducible repeat (first|refine Qa ?_ _|refine Qb ?_|refine Q7 ?_ _)); exact BK335.out⟩, ⟨by repeat (first|(with_reducible first|exact HB.out|apply Q8|apply Q5|apply Q9|refine Q6 ?_ GE335.out)|exact HB.out)⟩⟩
     ·rw [if_neg c5] at H
      have c5b0 : ((rd l0_1 x4_1) == 0) = false := beq_eq_false_iff_ne.mpr c5
      have c5b1 : ((rd l0_1 x4_1) != 0) = true := bne_iff_ne.mpr c5
      have H' := Q4 H
      clear H
      have hcz7_0 : wr.cell? ⟨gb335, 0, none⟩ = some (.slice A0_0 l0_0.length c0_0) := (blk_cell BK335.out 0).trans rfl
      have hcz7_1 : wr.cell? ⟨gb335, 1, none⟩ = some (.slice A0_1 l0_1.length c0_1) := (blk_cell BK335.out 1).trans rfl
      have hfz7_0 := blk_frozen BK335.out 0
      have hfz7_1 := blk_frozen BK335.out 1
      have p336 : 0 ≤ (x4_1 : Int) := Qc (by first|(with_reducible assumption)|assumption)
      have q336 : x4_1 < (l0_1.length : Int) := Qc (by first|(with_reducible assumption)|assumption)
      obtain ⟨ad336, e336, hx336_0⟩ := Kd.at_int HR0_1.out x4_1 p336 q336
      cases e336
      replace hx336_0 := (HB.out.cell (World.block_lt_of_cell? w _ hx336_0)).trans hx336_0
      replace p336 := eq_true p336
      replace q336 := eq_true q336
      go_wp2
      go_roundg k1
      case measure => have := HK1.out; omega
      case rel => exact ⟨(wrap64 (x3_1 + 1)), (wrap64 (x4_1 + 1)), (by first|rfl|(simp; done)|(simp [*]; done)), (by first|rfl|(simp; done)|(simp [*]; done)), H', ⟨by have := HK1.out; omega⟩, ⟨by (with_reducible repeat (first|refine Qa ?_ _|refine Qb ?_|refine Q7 ?_ _)); exact BK335.out⟩, ⟨by repeat (first|(with_reducible first|exact HB.out|apply Q8|apply Q5|apply Q9|refine Q6 ?_ GE335.out)|exact HB.out)⟩⟩
    ·rw [if_neg c4] at H
     exact absurd H (by simp)
   ·rw [if_neg c3] at H
    have c3b0 : decide (x4_1 < (l0_1.length : Int)) = false := decide_eq_false c3
    clear c3
    obtain rfl := Option.some.inj H
    have hcz8_0 : wr.cell? ⟨gb335, 0, none⟩ = some (.slice A0_0 l0_0.length c0_0) := (blk_cell BK335.out 0).trans rfl
    have hcz8_1 : wr.cell? ⟨gb335, 1, none⟩ = some (.slice A0_1 l0_1.length c0_1) := (blk_cell BK335.out 1).trans rfl
    have hfz8_0 := blk_frozen BK335.out 0
    have hfz8_1 := blk_frozen BK335.out 1
    go_wp2
    go_ret
    exact ⟨by first|rfl|(simp [errW_none, errW_some] <;> rfl)|(simp [*, errW_none, errW_some] <;> rfl), by repeat (first|(with_reducible first|exact HB.out|apply Q8|apply Q5|apply Q9|refine Q6 ?_ GE335.out)|exact HB.out)⟩

end Go.Proofs.Ytfoagjdcgipcaaa.X
-- pressed
