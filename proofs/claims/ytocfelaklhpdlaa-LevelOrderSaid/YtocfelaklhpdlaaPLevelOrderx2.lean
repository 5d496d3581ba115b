-- PRINTED BY print.sh 35421559b90ae4d0a3588c463048766b98c2df88dd9212a6774a882060cdf62d: not written by this session
import Derived.Test.YtocfelaklhpdlaaPLevelOrderx0
import Derived.Test.YtocfelaklhpdlaaPLevelOrderx1
namespace Go.Proofs.Ytocfelaklhpdlaa.PLevelOrder
open Go.RowKit Go.Proofs.YtocfelaklhpdlaaW.PrintWords Go.Proofs.YtocfelaklhpdlaaW.PrintLast Go.Proofs.YtocfelaklhpdlaaW.PrintMore
attribute [local go_sem] max2_int min2_int max_two min_two max_three min_three max_four min_four   -- for this text's walks alone
set_option linter.unusedVariables false
set_option linter.unusedSimpArgs false

/-! ### curtilagelaw01_LevelOrder: function 4 -/
mutual
def curtilagelaw01_LevelOrder.j0 : Nat → Int → Int → Int → Bool → Bool → Option (Bool)
  | 0, _, _, _, _, _ => none
  | k + 1, x0, x1, x2, x9, x51 => if x51 = true then (some false) else ((level_Join.f k x0 x1).bind fun t133 => ((level_Meet.f k x0 x1).bind fun t134 => ((level_Leq.f x0 t133).bind fun t135 => (if t135 = true then ((level_Leq.f x1 t133).bind fun t136 => (if t136 = true then ((level_Leq.f t134 x0).bind fun t137 => (if t137 = true then ((level_Leq.f t134 x1).bind fun t138 => (curtilagelaw01_LevelOrder.j1 k x0 x1 x2 x9 t133 t134 (!t138))) else (curtilagelaw01_LevelOrder.j1 k x0 x1 x2 x9 t133 t134 true))) else (curtilagelaw01_LevelOrder.j1 k x0 x1 x2 x9 t133 t134 true))) else (curtilagelaw01_LevelOrder.j1 k x0 x1 x2 x9 t133 t134 true)))))
def curtilagelaw01_LevelOrder.j1 : Nat → Int → Int → Int → Bool → Int → Int → Bool → Option (Bool)
  | 0, _, _, _, _, _, _, _ => none
  | k + 1, x0, x1, x2, x9, x10, x11, x79 => if x79 = true then (some false) else ((level_Leq.f x0 x2).bind fun t139 => (if t139 = true then (if x9 = true then ((level_Leq.f x10 x2).bind fun t140 => (if t140 = true then ((level_Leq.f x2 x0).bind fun t141 => (if t141 = true then ((level_Leq.f x2 x1).bind fun t142 => (if t142 = true then ((level_Leq.f x2 x11).bind fun t143 => (if t143 = true then ((curtilagelaw01_awake.f k).bind fun t144 => (some t144)) else (some false))) else ((curtilagelaw01_awake.f k).bind fun t145 => (some t145)))) else ((curtilagelaw01_awake.f k).bind fun t146 => (some t146)))) else (some false))) else ((level_Leq.f x2 x0).bind fun t147 => (if t147 = true then ((level_Leq.f x2 x1).bind fun t148 => (if t148 = true then ((level_Leq.f x2 x11).bind fun t149 => (if t149 = true then ((curtilagelaw01_awake.f k).bind fun t150 => (some t150)) else (some false))) else ((curtilagelaw01_awake.f k).bind fun t151 => (some t151)))) else ((curtilagelaw01_awake.f k).bind fun t152 => (some t152))))) else ((level_Leq.f x2 x0).bind fun t153 => (if t153 = true then ((level_Leq.f x2 x1).bind fun t154 => (if t154 = true then ((level_Leq.f x2 x11).bind fun t155 => (if t155 = true then ((curtilagelaw01_awake.f k).bind fun t156 => (some t156)) else (some false))) else ((curtilagelaw01_awake.f k).bind fun t157 => (some t157)))) else ((curtilagelaw01_awake.f k).bind fun t158 => (some t158))))))
end
def curtilagelaw01_LevelOrder.f (k : Nat) (a0 : Int) (a1 : Int) (a2 : Int) : Option (Bool) := (level_Leq.f a0 a1).bind fun t125 => ((level_Leq.f a1 a0).bind fun t126 => ((level_Leq.f a1 a2).bind fun t127 => (if t125 = true then (if t127 = true then ((level_Leq.f a0 a2).bind fun t128 => (if t128 = true then (if t126 = true then ((curtilageref01_Of.f a0).bind fun t129 => ((curtilageref01_Of.f a1).bind fun t130 => (curtilagelaw01_LevelOrder.j0 k a0 a1 a2 t127 (t129 != t130)))) else (curtilagelaw01_LevelOrder.j0 k a0 a1 a2 t127 false)) else (curtilagelaw01_LevelOrder.j0 k a0 a1 a2 t127 true))) else (if t126 = true then ((curtilageref01_Of.f a0).bind fun t131 => ((curtilageref01_Of.f a1).bind fun t132 => (curtilagelaw01_LevelOrder.j0 k a0 a1 a2 t127 (t131 != t132)))) else (curtilagelaw01_LevelOrder.j0 k a0 a1 a2 t127 false))) else (if t126 = true then (curtilagelaw01_LevelOrder.j0 k a0 a1 a2 t127 false) else (curtilagelaw01_LevelOrder.j0 k a0 a1 a2 t127 true)))))
theorem curtilagelaw01_LevelOrder.mono_l : ∀ k, (∀ y0 y1 y2 y3 y4, LeO (curtilagelaw01_LevelOrder.j0 k y0 y1 y2 y3 y4) (curtilagelaw01_LevelOrder.j0 (k + 1) y0 y1 y2 y3 y4)) ∧ (∀ y0 y1 y2 y3 y4 y5 y6, LeO (curtilagelaw01_LevelOrder.j1 k y0 y1 y2 y3 y4 y5 y6) (curtilagelaw01_LevelOrder.j1 (k + 1) y0 y1 y2 y3 y4 y5 y6))
  | 0 => ⟨fun _ _ _ _ _ r h => by simp [curtilagelaw01_LevelOrder.j0] at h, fun _ _ _ _ _ _ _ r h => by simp [curtilagelaw01_LevelOrder.j1] at h⟩
  | k + 1 => by
    obtain ⟨ih0, ih1⟩ := curtilagelaw01_LevelOrder.mono_l k
    refine ⟨?_, ?_⟩
    · intro y0 y1 y2 y3 y4
      unfold curtilagelaw01_LevelOrder.j0
      repeat' first
      | (with_reducible exact ih0 _ _ _ _ _)
      | (with_reducible exact ih1 _ _ _ _ _ _ _)
      | (with_reducible exact curtilagelaw01_awake.mono _)
      | (with_reducible exact level_Join.mono _ _ _)
      | (with_reducible exact level_Meet.mono _ _ _)
      | (with_reducible exact LeO.refl _)
      | (with_reducible exact LeO.none _)
      | (with_reducible refine LeO.ite ?_ ?_)
      | (with_reducible refine LeO.bind ?_ (fun _ => ?_))
      | exact ih0 _ _ _ _ _
      | exact ih1 _ _ _ _ _ _ _
      | exact curtilagelaw01_awake.mono _
      | exact level_Join.mono _ _ _
      | exact level_Meet.mono _ _ _
      | exact LeO.none _
      | refine LeO.ite ?_ ?_
      | refine LeO.bind ?_ (fun _ => ?_)
    · intro y0 y1 y2 y3 y4 y5 y6
      unfold curtilagelaw01_LevelOrder.j1
      repeat' first
      | (with_reducible exact ih0 _ _ _ _ _)
      | (with_reducible exact ih1 _ _ _ _ _ _ _)
      | (with_reducible exact curtilagelaw01_awake.mono _)
      | (with_reducible exact level_Join.mono _ _ _)
      | (with_reducible exact level_Meet.mono _ _ _)
      | (with_reducible exact LeO.refl _)
      | (with_reducible exact LeO.none _)
      | (with_reducible refine LeO.ite ?_ ?_)
      | (with_reducible refine LeO.bind ?_ (fun _ => ?_))
      | exact ih0 _ _ _ _ _
      | exact ih1 _ _ _ _ _ _ _
      | exact curtilagelaw01_awake.mono _
      | exact level_Join.mono _ _ _
      | exact level_Meet.mono _ _ _
      | exact LeO.none _
      | refine LeO.ite ?_ ?_
      | refine LeO.bind ?_ (fun _ => ?_)
theorem curtilagelaw01_LevelOrder.mono : ∀ a0 a1 a2 k, LeO (curtilagelaw01_LevelOrder.f k a0 a1 a2) (curtilagelaw01_LevelOrder.f (k + 1) a0 a1 a2) := by
  intro a0 a1 a2 k
  obtain ⟨ih0, ih1⟩ := curtilagelaw01_LevelOrder.mono_l k
  unfold curtilagelaw01_LevelOrder.f
  repeat' first
      | (with_reducible exact ih0 _ _ _ _ _)
      | (with_reducible exact ih1 _ _ _ _ _ _ _)
      | (with_reducible exact curtilagelaw01_awake.mono _)
      | (with_reducible exact level_Join.mono _ _ _)
      | (with_reducible exact level_Meet.mono _ _ _)
      | (with_reducible exact LeO.refl _)
      | (with_reducible exact LeO.none _)
      | (with_reducible refine LeO.ite ?_ ?_)
      | (with_reducible refine LeO.bind ?_ (fun _ => ?_))
      | exact ih0 _ _ _ _ _
      | exact ih1 _ _ _ _ _ _ _
      | exact curtilagelaw01_awake.mono _
      | exact level_Join.mono _ _ _
      | exact level_Meet.mono _ _ _
      | exact LeO.none _
      | refine LeO.ite ?_ ?_
      | refine LeO.bind ?_ (fun _ => ?_)
set_option maxHeartbeats 8000000 in
set_option maxRecDepth 100000 in
theorem curtilagelaw01_LevelOrder.calls (k : Nat) (a0 : Int) (a1 : Int) (a2 : Int) (r : Bool) (w : World) (h : curtilagelaw01_LevelOrder.f k a0 a1 a2 = some r) :
    Calls Try.prog 4 #[.int .i64 a0, .int .i64 a1, .int .i64 a2] w fun e w' => e = .returned (.bool r) ∧ Below w.heap.size w w' := by
  have HB := Aside0.mk (Below.refl w.heap.size w)
  have H : ((level_Leq.f a0 a1).bind fun t125 => ((level_Leq.f a1 a0).bind fun t126 => ((level_Leq.f a1 a2).bind fun t127 => (if t125 = true then (if t127 = true then ((level_Leq.f a0 a2).bind fun t128 => (if t128 = true then (if t126 = true then ((curtilageref01_Of.f a0).bind fun t129 => ((curtilageref01_Of.f a1).bind fun t130 => (curtilagelaw01_LevelOrder.j0 k a0 a1 a2 t127 (t129 != t130)))) else (curtilagelaw01_LevelOrder.j0 k a0 a1 a2 t127 false)) else (curtilagelaw01_LevelOrder.j0 k a0 a1 a2 t127 true))) else (if t126 = true then ((curtilageref01_Of.f a0).bind fun t131 => ((curtilageref01_Of.f a1).bind fun t132 => (curtilagelaw01_LevelOrder.j0 k a0 a1 a2 t127 (t131 != t132)))) else (curtilagelaw01_LevelOrder.j0 k a0 a1 a2 t127 false))) else (if t126 = true then (curtilagelaw01_LevelOrder.j0 k a0 a1 a2 t127 false) else (curtilagelaw01_LevelOrder.j0 k a0 a1 a2 t127 true)))))) = some r := h
  clear h
  replace H := Option.bind_eq_some_iff.mp H
  obtain ⟨t125, A40, H⟩ := H
  replace H : ((level_Leq.f a1 a0).bind fun t126 => ((level_Leq.f a1 a2).bind fun t127 => (if t125 = true then (if t127 = true then ((level_Leq.f a0 a2).bind fun t128 => (if t128 = true then (if t126 = true then ((curtilageref01_Of.f a0).bind fun t129 => ((curtilageref01_Of.f a1).bind fun t130 => (curtilagelaw01_LevelOrder.j0 k a0 a1 a2 t127 (t129 != t130)))) else (curtilagelaw01_LevelOrder.j0 k a0 a1 a2 t127 false)) else (curtilagelaw01_LevelOrder.j0 k a0 a1 a2 t127 true))) else (if t126 = true then ((curtilageref01_Of.f a0).bind fun t131 => ((curtilageref01_Of.f a1).bind fun t132 => (curtilagelaw01_LevelOrder.j0 k a0 a1 a2 t127 (t131 != t132)))) else (curtilagelaw01_LevelOrder.j0 k a0 a1 a2 t127 false))) else (if t126 = true then (curtilagelaw01_LevelOrder.j0 k a0 a1 a2 t127 false) else (curtilagelaw01_LevelOrder.j0 k a0 a1 a2 t127 true))))) = some r := H
  have A4 := Aside0.mk A40
  clear A40
  replace H := Option.bind_eq_some_iff.mp H
  obtain ⟨t126, A50, H⟩ := H
  replace H : ((level_Leq.f a1 a2).bind fun t127 => (if t125 = true then (if t127 = true then ((level_Leq.f a0 a2).bind fun t128 => (if t128 = true then (if t126 = true then ((curtilageref01_Of.f a0).bind fun t129 => ((curtilageref01_Of.f a1).bind fun t130 => (curtilagelaw01_LevelOrder.j0 k a0 a1 a2 t127 (t129 != t130)))) else (curtilagelaw01_LevelOrder.j0 k a0 a1 a2 t127 false)) else (curtilagelaw01_LevelOrder.j0 k a0 a1 a2 t127 true))) else (if t126 = true then ((curtilageref01_Of.f a0).bind fun t131 => ((curtilageref01_Of.f a1).bind fun t132 => (curtilagelaw01_LevelOrder.j0 k a0 a1 a2 t127 (t131 != t132)))) else (curtilagelaw01_LevelOrder.j0 k a0 a1 a2 t127 false))) else (if t126 = true then (curtilagelaw01_LevelOrder.j0 k a0 a1 a2 t127 false) else (curtilagelaw01_LevelOrder.j0 k a0 a1 a2 t127 true)))) = some r := H
  have A5 := Aside0.mk A50
  clear A50
  replace H := Option.bind_eq_some_iff.mp H
  obtain ⟨t127, A60, H⟩ := H
  replace H : (if t125 = true then (if t127 = true then ((level_Leq.f a0 a2).bind fun t128 => (if t128 = true then (if t126 = true then ((curtilageref01_Of.f a0).bind fun t129 => ((curtilageref01_Of.f a1).bind fun t130 => (curtilagelaw01_LevelOrder.j0 k a0 a1 a2 t127 (t129 != t130)))) else (curtilagelaw01_LevelOrder.j0 k a0 a1 a2 t127 false)) else (curtilagelaw01_LevelOrder.j0 k a0 a1 a2 t127 true))) else (if t126 = true then ((curtilageref01_Of.f a0).bind fun t131 => ((curtilageref01_Of.f a1).bind fun t132 => (curtilagelaw01_LevelOrder.j0 k a0 a1 a2 t127 (t131 != t132)))) else (curtilagelaw01_LevelOrder.j0 k a0 a1 a2 t127 false))) else (if t126 = true then (curtilagelaw01_LevelOrder.j0 k a0 a1 a2 t127 false) else (curtilagelaw01_LevelOrder.j0 k a0 a1 a2 t127 true))) = some r := H
  have A6 := Aside0.mk A60
  clear A60
  have HC7 := Aside0.mk H
  clear H
  go_enter Try.func4, Try.ntmps4
  go_upto_region 2 with (first | ((with_reducible refine gate_callee (f := 15) rfl ?_); refine goesL_ (some 14) rfl rfl Try.func15 (by kernel_rfl) rfl #[.int .i64 a0, .int .i64 a1] rfl (by (try simp only [List.map_toArray, List.map_cons, List.map_nil]); first | done | rfl | (simp only [List.length_drop, List.length_take]; rfl)) ?_; (with_reducible refine (level_Leq.calls a0 a1 t125 _ A4.out).mono ?_); rintro e w' ⟨rfl, ⟨nd, rfl⟩⟩; refine ⟨_, rfl, ?_⟩) | ((with_reducible refine gate_callee (f := 15) rfl ?_); refine goesL_ (some 17) rfl rfl Try.func15 (by kernel_rfl) rfl #[.int .i64 a1, .int .i64 a0] rfl (by (try simp only [List.map_toArray, List.map_cons, List.map_nil]); first | done | rfl | (simp only [List.length_drop, List.length_take]; rfl)) ?_; (with_reducible refine (level_Leq.calls a1 a0 t126 _ A5.out).mono ?_); rintro e w' ⟨rfl, ⟨nd, rfl⟩⟩; refine ⟨_, rfl, ?_⟩) | ((with_reducible refine gate_callee (f := 15) rfl ?_); refine goesL_ (some 20) rfl rfl Try.func15 (by kernel_rfl) rfl #[.int .i64 a1, .int .i64 a2] rfl (by (try simp only [List.map_toArray, List.map_cons, List.map_nil]); first | done | rfl | (simp only [List.length_drop, List.length_take]; rfl)) ?_; (with_reducible refine (level_Leq.calls a1 a2 t127 _ A6.out).mono ?_); rintro e w' ⟨rfl, ⟨nd, rfl⟩⟩; refine ⟨_, rfl, ?_⟩))
  (try simp only [Act.put, List.setIfInBounds_toArray, List.set_cons_zero, List.set_cons_succ])
  go_cut [51] (fun v51 wc => ∃ (kq : Nat) (x51_6 : Bool), v51 = .bool x51_6 ∧ Aside0 (curtilagelaw01_LevelOrder.j0 kq a0 a1 a2 t127 x51_6 = some r) ∧ Aside0 (kq ≤ k) ∧ Aside0 (Below w.heap.size w wc))
  case first =>
    have H := HC7.out
    clear HC7
    by_cases c8 : t125 = true
    · subst c8
      have H1 : (if t127 = true then ((level_Leq.f a0 a2).bind fun t128 => (if t128 = true then (if t126 = true then ((curtilageref01_Of.f a0).bind fun t129 => ((curtilageref01_Of.f a1).bind fun t130 => (curtilagelaw01_LevelOrder.j0 k a0 a1 a2 t127 (t129 != t130)))) else (curtilagelaw01_LevelOrder.j0 k a0 a1 a2 t127 false)) else (curtilagelaw01_LevelOrder.j0 k a0 a1 a2 t127 true))) else (if t126 = true then ((curtilageref01_Of.f a0).bind fun t131 => ((curtilageref01_Of.f a1).bind fun t132 => (curtilagelaw01_LevelOrder.j0 k a0 a1 a2 t127 (t131 != t132)))) else (curtilagelaw01_LevelOrder.j0 k a0 a1 a2 t127 false))) = some r := by rw [if_pos rfl] at H; exact H
      clear H
      have H := H1
      clear H1
      by_cases c9 : t127 = true
      · subst c9
        have H1 : ((level_Leq.f a0 a2).bind fun t128 => (if t128 = true then (if t126 = true then ((curtilageref01_Of.f a0).bind fun t129 => ((curtilageref01_Of.f a1).bind fun t130 => (curtilagelaw01_LevelOrder.j0 k a0 a1 a2 true (t129 != t130)))) else (curtilagelaw01_LevelOrder.j0 k a0 a1 a2 true false)) else (curtilagelaw01_LevelOrder.j0 k a0 a1 a2 true true))) = some r := by rw [if_pos rfl] at H; exact H
        clear H
        have H := H1
        clear H1
        replace H := Option.bind_eq_some_iff.mp H
        obtain ⟨t128, A100, H⟩ := H
        replace H : (if t128 = true then (if t126 = true then ((curtilageref01_Of.f a0).bind fun t129 => ((curtilageref01_Of.f a1).bind fun t130 => (curtilagelaw01_LevelOrder.j0 k a0 a1 a2 true (t129 != t130)))) else (curtilagelaw01_LevelOrder.j0 k a0 a1 a2 true false)) else (curtilagelaw01_LevelOrder.j0 k a0 a1 a2 true true)) = some r := H
        have A10 := Aside0.mk A100
        clear A100
        by_cases c11 : t128 = true
        · subst c11
          have H1 : (if t126 = true then ((curtilageref01_Of.f a0).bind fun t129 => ((curtilageref01_Of.f a1).bind fun t130 => (curtilagelaw01_LevelOrder.j0 k a0 a1 a2 true (t129 != t130)))) else (curtilagelaw01_LevelOrder.j0 k a0 a1 a2 true false)) = some r := by rw [if_pos rfl] at H; exact H
          clear H
          have H := H1
          clear H1
          by_cases c12 : t126 = true
          · subst c12
            have H1 : ((curtilageref01_Of.f a0).bind fun t129 => ((curtilageref01_Of.f a1).bind fun t130 => (curtilagelaw01_LevelOrder.j0 k a0 a1 a2 true (t129 != t130)))) = some r := by rw [if_pos rfl] at H; exact H
            clear H
            have H := H1
            clear H1
            replace H := Option.bind_eq_some_iff.mp H
            obtain ⟨t129, A130, H⟩ := H
            replace H : ((curtilageref01_Of.f a1).bind fun t130 => (curtilagelaw01_LevelOrder.j0 k a0 a1 a2 true (t129 != t130))) = some r := H
            have A13 := Aside0.mk A130
            clear A130
            replace H := Option.bind_eq_some_iff.mp H
            obtain ⟨t130, A140, H⟩ := H
            replace H : (curtilagelaw01_LevelOrder.j0 k a0 a1 a2 true (t129 != t130)) = some r := H
            have A14 := Aside0.mk A140
            clear A140
            have H' := Aside0.mk H
            clear H
            go_wp2_with (first | (go_at_call 15; (with_reducible refine (level_Leq.calls a0 a2 true _ A10.out).mono ?_); rintro e w' ⟨rfl, ⟨nd, rfl⟩⟩) | (go_at_call 13; (with_reducible refine (curtilageref01_Of.calls a0 t129 _ A13.out).mono ?_); rintro e w' ⟨rfl, ⟨nd, rfl⟩⟩) | (go_at_call 13; (with_reducible refine (curtilageref01_Of.calls a1 t130 _ A14.out).mono ?_); rintro e w' ⟨rfl, ⟨nd, rfl⟩⟩))
            go_meet
            case rel => exact ⟨_, ((t129 != t130)), (by first | rfl | (simp; done) | (simp [*]; done)), H', ⟨by first | omega | exact Nat.le_refl _⟩, ⟨by repeat (first | (with_reducible first | exact HB.out | apply below_alloc | apply pw_below_drewN | apply below_drew1) | exact HB.out)⟩⟩
          · replace c12 := Bool.eq_false_iff.mpr c12
            subst c12
            have H1 : (curtilagelaw01_LevelOrder.j0 k a0 a1 a2 true false) = some r := by rw [if_neg (show ¬ (false = true) by decide)] at H; exact H
            clear H
            have H := H1
            clear H1
            have H' := Aside0.mk H
            clear H
            go_wp2_with (first | (go_at_call 15; (with_reducible refine (level_Leq.calls a0 a2 true _ A10.out).mono ?_); rintro e w' ⟨rfl, ⟨nd, rfl⟩⟩))
            go_meet
            case rel => exact ⟨_, (false), (by first | rfl | (simp; done) | (simp [*]; done)), H', ⟨by first | omega | exact Nat.le_refl _⟩, ⟨by repeat (first | (with_reducible first | exact HB.out | apply below_alloc | apply pw_below_drewN | apply below_drew1) | exact HB.out)⟩⟩
        · replace c11 := Bool.eq_false_iff.mpr c11
          subst c11
          have H1 : (curtilagelaw01_LevelOrder.j0 k a0 a1 a2 true true) = some r := by rw [if_neg (show ¬ (false = true) by decide)] at H; exact H
          clear H
          have H := H1
          clear H1
          have H' := Aside0.mk H
          clear H
          go_wp2_with (first | (go_at_call 15; (with_reducible refine (level_Leq.calls a0 a2 false _ A10.out).mono ?_); rintro e w' ⟨rfl, ⟨nd, rfl⟩⟩))
          go_meet
          case rel => exact ⟨_, (true), (by first | rfl | (simp; done) | (simp [*]; done)), H', ⟨by first | omega | exact Nat.le_refl _⟩, ⟨by repeat (first | (with_reducible first | exact HB.out | apply below_alloc | apply pw_below_drewN | apply below_drew1) | exact HB.out)⟩⟩
      · replace c9 := Bool.eq_false_iff.mpr c9
        subst c9
        have H1 : (if t126 = true then ((curtilageref01_Of.f a0).bind fun t131 => ((curtilageref01_Of.f a1).bind fun t132 => (curtilagelaw01_LevelOrder.j0 k a0 a1 a2 false (t131 != t132)))) else (curtilagelaw01_LevelOrder.j0 k a0 a1 a2 false false)) = some r := by rw [if_neg (show ¬ (false = true) by decide)] at H; exact H
        clear H
        have H := H1
        clear H1
        by_cases c15 : t126 = true
        · subst c15
          have H1 : ((curtilageref01_Of.f a0).bind fun t131 => ((curtilageref01_Of.f a1).bind fun t132 => (curtilagelaw01_LevelOrder.j0 k a0 a1 a2 false (t131 != t132)))) = some r := by rw [if_pos rfl] at H; exact H
          clear H
          have H := H1
          clear H1
          replace H := Option.bind_eq_some_iff.mp H
          obtain ⟨t131, A160, H⟩ := H
          replace H : ((curtilageref01_Of.f a1).bind fun t132 => (curtilagelaw01_LevelOrder.j0 k a0 a1 a2 false (t131 != t132))) = some r := H
          have A16 := Aside0.mk A160
          clear A160
          replace H := Option.bind_eq_some_iff.mp H
          obtain ⟨t132, A170, H⟩ := H
          replace H : (curtilagelaw01_LevelOrder.j0 k a0 a1 a2 false (t131 != t132)) = some r := H
          have A17 := Aside0.mk A170
          clear A170
          have H' := Aside0.mk H
          clear H
          go_wp2_with (first | (go_at_call 13; (with_reducible refine (curtilageref01_Of.calls a0 t131 _ A16.out).mono ?_); rintro e w' ⟨rfl, ⟨nd, rfl⟩⟩) | (go_at_call 13; (with_reducible refine (curtilageref01_Of.calls a1 t132 _ A17.out).mono ?_); rintro e w' ⟨rfl, ⟨nd, rfl⟩⟩))
          go_meet
          case rel => exact ⟨_, ((t131 != t132)), (by first | rfl | (simp; done) | (simp [*]; done)), H', ⟨by first | omega | exact Nat.le_refl _⟩, ⟨by repeat (first | (with_reducible first | exact HB.out | apply below_alloc | apply pw_below_drewN | apply below_drew1) | exact HB.out)⟩⟩
        · replace c15 := Bool.eq_false_iff.mpr c15
          subst c15
          have H1 : (curtilagelaw01_LevelOrder.j0 k a0 a1 a2 false false) = some r := by rw [if_neg (show ¬ (false = true) by decide)] at H; exact H
          clear H
          have H := H1
          clear H1
          have H' := Aside0.mk H
          clear H
          go_wp2
          go_meet
          case rel => exact ⟨_, (false), (by first | rfl | (simp; done) | (simp [*]; done)), H', ⟨by first | omega | exact Nat.le_refl _⟩, ⟨by repeat (first | (with_reducible first | exact HB.out | apply below_alloc | apply pw_below_drewN | apply below_drew1) | exact HB.out)⟩⟩
    · replace c8 := Bool.eq_false_iff.mpr c8
      subst c8
      have H1 : (if t126 = true then (curtilagelaw01_LevelOrder.j0 k a0 a1 a2 t127 false) else (curtilagelaw01_LevelOrder.j0 k a0 a1 a2 t127 true)) = some r := by rw [if_neg (show ¬ (false = true) by decide)] at H; exact H
      clear H
      have H := H1
      clear H1
      by_cases c18 : t126 = true
      · subst c18
        have H1 : (curtilagelaw01_LevelOrder.j0 k a0 a1 a2 t127 false) = some r := by rw [if_pos rfl] at H; exact H
        clear H
        have H := H1
        clear H1
        have H' := Aside0.mk H
        clear H
        go_wp2
        go_meet
        case rel => exact ⟨_, (false), (by first | rfl | (simp; done) | (simp [*]; done)), H', ⟨by first | omega | exact Nat.le_refl _⟩, ⟨by repeat (first | (with_reducible first | exact HB.out | apply below_alloc | apply pw_below_drewN | apply below_drew1) | exact HB.out)⟩⟩
      · replace c18 := Bool.eq_false_iff.mpr c18
        subst c18
        have H1 : (curtilagelaw01_LevelOrder.j0 k a0 a1 a2 t127 true) = some r := by rw [if_neg (show ¬ (false = true) by decide)] at H; exact H
        clear H
        have H := H1
        clear H1
        have H' := Aside0.mk H
        clear H
        go_wp2
        go_meet
        case rel => exact ⟨_, (true), (by first | rfl | (simp; done) | (simp [*]; done)), H', ⟨by first | omega | exact Nat.le_refl _⟩, ⟨by repeat (first | (with_reducible first | exact HB.out | apply below_alloc | apply pw_below_drewN | apply below_drew1) | exact HB.out)⟩⟩
  case rest =>
    clear HC7
    try clear c1
    try clear p2
    try clear c4
    try clear c8
    try clear c9
    try clear c11
    try clear c12
    try clear c15
    try clear c18
    obtain ⟨kq, x51_6, rfl, HA, HJ6, HB⟩ := hcut
    cases kq with
    | zero => exact absurd HA.out (by simp [curtilagelaw01_LevelOrder.j0])
    | succ kj6 =>
      have H := HA.out
      clear HA
      simp only [curtilagelaw01_LevelOrder.j0] at H
      by_cases c19 : x51_6 = true
      · subst c19
        have H1 : (some false) = some r := by rw [if_pos rfl] at H; exact H
        clear H
        have H := H1
        clear H1
        obtain rfl := Option.some.inj H
        go_wp2
        go_ret
        exact ⟨by first | rfl | (simp [errW_none, errW_some] <;> rfl) | (simp [*, errW_none, errW_some] <;> rfl), by repeat (first | (with_reducible first | exact HB.out | apply below_alloc | apply pw_below_drewN | apply below_drew1) | exact HB.out)⟩
      · replace c19 := Bool.eq_false_iff.mpr c19
        subst c19
        have H1 : ((level_Join.f kj6 a0 a1).bind fun t133 => ((level_Meet.f kj6 a0 a1).bind fun t134 => ((level_Leq.f a0 t133).bind fun t135 => (if t135 = true then ((level_Leq.f a1 t133).bind fun t136 => (if t136 = true then ((level_Leq.f t134 a0).bind fun t137 => (if t137 = true then ((level_Leq.f t134 a1).bind fun t138 => (curtilagelaw01_LevelOrder.j1 kj6 a0 a1 a2 t127 t133 t134 (!t138))) else (curtilagelaw01_LevelOrder.j1 kj6 a0 a1 a2 t127 t133 t134 true))) else (curtilagelaw01_LevelOrder.j1 kj6 a0 a1 a2 t127 t133 t134 true))) else (curtilagelaw01_LevelOrder.j1 kj6 a0 a1 a2 t127 t133 t134 true))))) = some r := by rw [if_neg (show ¬ (false = true) by decide)] at H; exact H
        clear H
        have H := H1
        clear H1
        replace H := Option.bind_eq_some_iff.mp H
        obtain ⟨t133, A200, H⟩ := H
        replace H : ((level_Meet.f kj6 a0 a1).bind fun t134 => ((level_Leq.f a0 t133).bind fun t135 => (if t135 = true then ((level_Leq.f a1 t133).bind fun t136 => (if t136 = true then ((level_Leq.f t134 a0).bind fun t137 => (if t137 = true then ((level_Leq.f t134 a1).bind fun t138 => (curtilagelaw01_LevelOrder.j1 kj6 a0 a1 a2 t127 t133 t134 (!t138))) else (curtilagelaw01_LevelOrder.j1 kj6 a0 a1 a2 t127 t133 t134 true))) else (curtilagelaw01_LevelOrder.j1 kj6 a0 a1 a2 t127 t133 t134 true))) else (curtilagelaw01_LevelOrder.j1 kj6 a0 a1 a2 t127 t133 t134 true)))) = some r := H
        have A20 := Aside0.mk A200
        clear A200
        replace H := Option.bind_eq_some_iff.mp H
        obtain ⟨t134, A210, H⟩ := H
        replace H : ((level_Leq.f a0 t133).bind fun t135 => (if t135 = true then ((level_Leq.f a1 t133).bind fun t136 => (if t136 = true then ((level_Leq.f t134 a0).bind fun t137 => (if t137 = true then ((level_Leq.f t134 a1).bind fun t138 => (curtilagelaw01_LevelOrder.j1 kj6 a0 a1 a2 t127 t133 t134 (!t138))) else (curtilagelaw01_LevelOrder.j1 kj6 a0 a1 a2 t127 t133 t134 true))) else (curtilagelaw01_LevelOrder.j1 kj6 a0 a1 a2 t127 t133 t134 true))) else (curtilagelaw01_LevelOrder.j1 kj6 a0 a1 a2 t127 t133 t134 true))) = some r := H
        have A21 := Aside0.mk A210
        clear A210
        have HC22 := Aside0.mk H
        clear H
        go_upto_region 5 with (first | ((with_reducible refine gate_callee (f := 16) rfl ?_); refine goesL_ (some 54) rfl rfl Try.func16 (by kernel_rfl) rfl #[.int .i64 a0, .int .i64 a1] rfl (by (try simp only [List.map_toArray, List.map_cons, List.map_nil]); first | done | rfl | (simp only [List.length_drop, List.length_take]; rfl)) ?_; (with_reducible refine (level_Join.calls kj6 a0 a1 t133 _ A20.out).mono ?_); rintro e w23 ⟨rfl, hb⟩; refine ⟨_, rfl, ?_⟩; have n0_ := Aside0.mk (below_step (by repeat (first | (with_reducible first | exact HB.out | apply below_alloc | apply pw_below_drewN | apply below_drew1) | exact HB.out)) hb); clear HB; have HB := n0_; clear n0_; (try clear hb); (try clear hb2); (try clear hk); (try clear hi)) | ((with_reducible refine gate_callee (f := 17) rfl ?_); refine goesL_ (some 57) rfl rfl Try.func17 (by kernel_rfl) rfl #[.int .i64 a0, .int .i64 a1] rfl (by (try simp only [List.map_toArray, List.map_cons, List.map_nil]); first | done | rfl | (simp only [List.length_drop, List.length_take]; rfl)) ?_; (with_reducible refine (level_Meet.calls kj6 a0 a1 t134 _ A21.out).mono ?_); rintro e w24 ⟨rfl, hb⟩; refine ⟨_, rfl, ?_⟩; have n0_ := Aside0.mk (below_step (by repeat (first | (with_reducible first | exact HB.out | apply below_alloc | apply pw_below_drewN | apply below_drew1) | exact HB.out)) hb); clear HB; have HB := n0_; clear n0_; (try clear hb); (try clear hb2); (try clear hk); (try clear hi)))
        (try simp only [Act.put, List.setIfInBounds_toArray, List.set_cons_zero, List.set_cons_succ])
        go_cut [79] (fun v79 wc => ∃ (kq : Nat) (x79_21 : Bool), v79 = .bool x79_21 ∧ Aside0 (curtilagelaw01_LevelOrder.j1 kq a0 a1 a2 t127 t133 t134 x79_21 = some r) ∧ Aside0 (kq ≤ kj6) ∧ Aside0 (Below w.heap.size w wc))
        case first =>
          have H := HC22.out
          clear HC22
          replace H := Option.bind_eq_some_iff.mp H
          obtain ⟨t135, A250, H⟩ := H
          replace H : (if t135 = true then ((level_Leq.f a1 t133).bind fun t136 => (if t136 = true then ((level_Leq.f t134 a0).bind fun t137 => (if t137 = true then ((level_Leq.f t134 a1).bind fun t138 => (curtilagelaw01_LevelOrder.j1 kj6 a0 a1 a2 t127 t133 t134 (!t138))) else (curtilagelaw01_LevelOrder.j1 kj6 a0 a1 a2 t127 t133 t134 true))) else (curtilagelaw01_LevelOrder.j1 kj6 a0 a1 a2 t127 t133 t134 true))) else (curtilagelaw01_LevelOrder.j1 kj6 a0 a1 a2 t127 t133 t134 true)) = some r := H
          have A25 := Aside0.mk A250
          clear A250
          by_cases c26 : t135 = true
          · subst c26
            have H1 : ((level_Leq.f a1 t133).bind fun t136 => (if t136 = true then ((level_Leq.f t134 a0).bind fun t137 => (if t137 = true then ((level_Leq.f t134 a1).bind fun t138 => (curtilagelaw01_LevelOrder.j1 kj6 a0 a1 a2 t127 t133 t134 (!t138))) else (curtilagelaw01_LevelOrder.j1 kj6 a0 a1 a2 t127 t133 t134 true))) else (curtilagelaw01_LevelOrder.j1 kj6 a0 a1 a2 t127 t133 t134 true))) = some r := by rw [if_pos rfl] at H; exact H
            clear H
            have H := H1
            clear H1
            replace H := Option.bind_eq_some_iff.mp H
            obtain ⟨t136, A270, H⟩ := H
            replace H : (if t136 = true then ((level_Leq.f t134 a0).bind fun t137 => (if t137 = true then ((level_Leq.f t134 a1).bind fun t138 => (curtilagelaw01_LevelOrder.j1 kj6 a0 a1 a2 t127 t133 t134 (!t138))) else (curtilagelaw01_LevelOrder.j1 kj6 a0 a1 a2 t127 t133 t134 true))) else (curtilagelaw01_LevelOrder.j1 kj6 a0 a1 a2 t127 t133 t134 true)) = some r := H
            have A27 := Aside0.mk A270
            clear A270
            by_cases c28 : t136 = true
            · subst c28
              have H1 : ((level_Leq.f t134 a0).bind fun t137 => (if t137 = true then ((level_Leq.f t134 a1).bind fun t138 => (curtilagelaw01_LevelOrder.j1 kj6 a0 a1 a2 t127 t133 t134 (!t138))) else (curtilagelaw01_LevelOrder.j1 kj6 a0 a1 a2 t127 t133 t134 true))) = some r := by rw [if_pos rfl] at H; exact H
              clear H
              have H := H1
              clear H1
              replace H := Option.bind_eq_some_iff.mp H
              obtain ⟨t137, A290, H⟩ := H
              replace H : (if t137 = true then ((level_Leq.f t134 a1).bind fun t138 => (curtilagelaw01_LevelOrder.j1 kj6 a0 a1 a2 t127 t133 t134 (!t138))) else (curtilagelaw01_LevelOrder.j1 kj6 a0 a1 a2 t127 t133 t134 true)) = some r := H
              have A29 := Aside0.mk A290
              clear A290
              by_cases c30 : t137 = true
              · subst c30
                have H1 : ((level_Leq.f t134 a1).bind fun t138 => (curtilagelaw01_LevelOrder.j1 kj6 a0 a1 a2 t127 t133 t134 (!t138))) = some r := by rw [if_pos rfl] at H; exact H
                clear H
                have H := H1
                clear H1
                replace H := Option.bind_eq_some_iff.mp H
                obtain ⟨t138, A310, H⟩ := H
                replace H : (curtilagelaw01_LevelOrder.j1 kj6 a0 a1 a2 t127 t133 t134 (!t138)) = some r := H
                have A31 := Aside0.mk A310
                clear A310
                have H' := Aside0.mk H
                clear H
                go_wp2_with (first | ((with_reducible refine gate_callee (f := 15) rfl ?_); refine goesL_ (some 60) rfl rfl Try.func15 (by kernel_rfl) rfl #[.int .i64 a0, .int .i64 t133] rfl (by (try simp only [List.map_toArray, List.map_cons, List.map_nil]); first | done | rfl | (simp only [List.length_drop, List.length_take]; rfl)) ?_; (with_reducible refine (level_Leq.calls a0 t133 true _ A25.out).mono ?_); rintro e w' ⟨rfl, ⟨nd, rfl⟩⟩; refine ⟨_, rfl, ?_⟩) | (go_at_call 15; (with_reducible refine (level_Leq.calls a1 t133 true _ A27.out).mono ?_); rintro e w' ⟨rfl, ⟨nd, rfl⟩⟩) | (go_at_call 15; (with_reducible refine (level_Leq.calls t134 a0 true _ A29.out).mono ?_); rintro e w' ⟨rfl, ⟨nd, rfl⟩⟩) | (go_at_call 15; (with_reducible refine (level_Leq.calls t134 a1 t138 _ A31.out).mono ?_); rintro e w' ⟨rfl, ⟨nd, rfl⟩⟩))
                go_meet
                case rel => exact ⟨_, (!t138), (by first | rfl | (simp; done) | (simp [*]; done)), H', ⟨by have := HJ6.out; first | omega | exact Nat.le_refl _⟩, ⟨by repeat (first | (with_reducible first | exact HB.out | apply below_alloc | apply pw_below_drewN | apply below_drew1) | exact HB.out)⟩⟩
              · replace c30 := Bool.eq_false_iff.mpr c30
                subst c30
                have H1 : (curtilagelaw01_LevelOrder.j1 kj6 a0 a1 a2 t127 t133 t134 true) = some r := by rw [if_neg (show ¬ (false = true) by decide)] at H; exact H
                clear H
                have H := H1
                clear H1
                have H' := Aside0.mk H
                clear H
                go_wp2_with (first | ((with_reducible refine gate_callee (f := 15) rfl ?_); refine goesL_ (some 60) rfl rfl Try.func15 (by kernel_rfl) rfl #[.int .i64 a0, .int .i64 t133] rfl (by (try simp only [List.map_toArray, List.map_cons, List.map_nil]); first | done | rfl | (simp only [List.length_drop, List.length_take]; rfl)) ?_; (with_reducible refine (level_Leq.calls a0 t133 true _ A25.out).mono ?_); rintro e w' ⟨rfl, ⟨nd, rfl⟩⟩; refine ⟨_, rfl, ?_⟩) | (go_at_call 15; (with_reducible refine (level_Leq.calls a1 t133 true _ A27.out).mono ?_); rintro e w' ⟨rfl, ⟨nd, rfl⟩⟩) | (go_at_call 15; (with_reducible refine (level_Leq.calls t134 a0 false _ A29.out).mono ?_); rintro e w' ⟨rfl, ⟨nd, rfl⟩⟩))
                go_meet
                case rel => exact ⟨_, (true), (by first | rfl | (simp; done) | (simp [*]; done)), H', ⟨by have := HJ6.out; first | omega | exact Nat.le_refl _⟩, ⟨by repeat (first | (with_reducible first | exact HB.out | apply below_alloc | apply pw_below_drewN | apply below_drew1) | exact HB.out)⟩⟩
            · replace c28 := Bool.eq_false_iff.mpr c28
              subst c28
              have H1 : (curtilagelaw01_LevelOrder.j1 kj6 a0 a1 a2 t127 t133 t134 true) = some r := by rw [if_neg (show ¬ (false = true) by decide)] at H; exact H
              clear H
              have H := H1
              clear H1
              have H' := Aside0.mk H
              clear H
              go_wp2_with (first | ((with_reducible refine gate_callee (f := 15) rfl ?_); refine goesL_ (some 60) rfl rfl Try.func15 (by kernel_rfl) rfl #[.int .i64 a0, .int .i64 t133] rfl (by (try simp only [List.map_toArray, List.map_cons, List.map_nil]); first | done | rfl | (simp only [List.length_drop, List.length_take]; rfl)) ?_; (with_reducible refine (level_Leq.calls a0 t133 true _ A25.out).mono ?_); rintro e w' ⟨rfl, ⟨nd, rfl⟩⟩; refine ⟨_, rfl, ?_⟩) | (go_at_call 15; (with_reducible refine (level_Leq.calls a1 t133 false _ A27.out).mono ?_); rintro e w' ⟨rfl, ⟨nd, rfl⟩⟩))
              go_meet
              case rel => exact ⟨_, (true), (by first | rfl | (simp; done) | (simp [*]; done)), H', ⟨by have := HJ6.out; first | omega | exact Nat.le_refl _⟩, ⟨by repeat (first | (with_reducible first | exact HB.out | apply below_alloc | apply pw_below_drewN | apply below_drew1) | exact HB.out)⟩⟩
          · replace c26 := Bool.eq_false_iff.mpr c26
            subst c26
            have H1 : (curtilagelaw01_LevelOrder.j1 kj6 a0 a1 a2 t127 t133 t134 true) = some r := by rw [if_neg (show ¬ (false = true) by decide)] at H; exact H
            clear H
            have H := H1
            clear H1
            have H' := Aside0.mk H
            clear H
            go_wp2_with (first | ((with_reducible refine gate_callee (f := 15) rfl ?_); refine goesL_ (some 60) rfl rfl Try.func15 (by kernel_rfl) rfl #[.int .i64 a0, .int .i64 t133] rfl (by (try simp only [List.map_toArray, List.map_cons, List.map_nil]); first | done | rfl | (simp only [List.length_drop, List.length_take]; rfl)) ?_; (with_reducible refine (level_Leq.calls a0 t133 false _ A25.out).mono ?_); rintro e w' ⟨rfl, ⟨nd, rfl⟩⟩; refine ⟨_, rfl, ?_⟩))
            go_meet
            case rel => exact ⟨_, (true), (by first | rfl | (simp; done) | (simp [*]; done)), H', ⟨by have := HJ6.out; first | omega | exact Nat.le_refl _⟩, ⟨by repeat (first | (with_reducible first | exact HB.out | apply below_alloc | apply pw_below_drewN | apply below_drew1) | exact HB.out)⟩⟩
        case rest =>
          clear HC22
          try clear c1
          try clear c2
          try clear p2
          try clear c3
          try clear c4
          try clear c8
          try clear c9
          try clear c11
          try clear c12
          try clear c15
          try clear c16
          try clear c17
          try clear c18
          try clear c19
          try clear c26
          try clear c28
          try clear c30
          try clear p2
          obtain ⟨kq, x79_21, rfl, HA, HJ21, HB⟩ := hcut
          cases kq with
          | zero => exact absurd HA.out (by simp [curtilagelaw01_LevelOrder.j1])
          | succ kj21 =>
            have H := HA.out
            clear HA
            simp only [curtilagelaw01_LevelOrder.j1] at H
            by_cases c32 : x79_21 = true
            · subst c32
              have H1 : (some false) = some r := by rw [if_pos rfl] at H; exact H
              clear H
              have H := H1
              clear H1
              obtain rfl := Option.some.inj H
              go_wp2
              go_ret
              exact ⟨by first | rfl | (simp [errW_none, errW_some] <;> rfl) | (simp [*, errW_none, errW_some] <;> rfl), by repeat (first | (with_reducible first | exact HB.out | apply below_alloc | apply pw_below_drewN | apply below_drew1) | exact HB.out)⟩
            · replace c32 := Bool.eq_false_iff.mpr c32
              subst c32
              have H1 : ((level_Leq.f a0 a2).bind fun t139 => (if t139 = true then (if t127 = true then ((level_Leq.f t133 a2).bind fun t140 => (if t140 = true then ((level_Leq.f a2 a0).bind fun t141 => (if t141 = true then ((level_Leq.f a2 a1).bind fun t142 => (if t142 = true then ((level_Leq.f a2 t134).bind fun t143 => (if t143 = true then ((curtilagelaw01_awake.f kj21).bind fun t144 => (some t144)) else (some false))) else ((curtilagelaw01_awake.f kj21).bind fun t145 => (some t145)))) else ((curtilagelaw01_awake.f kj21).bind fun t146 => (some t146)))) else (some false))) else ((level_Leq.f a2 a0).bind fun t147 => (if t147 = true then ((level_Leq.f a2 a1).bind fun t148 => (if t148 = true then ((level_Leq.f a2 t134).bind fun t149 => (if t149 = true then ((curtilagelaw01_awake.f kj21).bind fun t150 => (some t150)) else (some false))) else ((curtilagelaw01_awake.f kj21).bind fun t151 => (some t151)))) else ((curtilagelaw01_awake.f kj21).bind fun t152 => (some t152))))) else ((level_Leq.f a2 a0).bind fun t153 => (if t153 = true then ((level_Leq.f a2 a1).bind fun t154 => (if t154 = true then ((level_Leq.f a2 t134).bind fun t155 => (if t155 = true then ((curtilagelaw01_awake.f kj21).bind fun t156 => (some t156)) else (some false))) else ((curtilagelaw01_awake.f kj21).bind fun t157 => (some t157)))) else ((curtilagelaw01_awake.f kj21).bind fun t158 => (some t158)))))) = some r := by rw [if_neg (show ¬ (false = true) by decide)] at H; exact H
              clear H
              have H := H1
              clear H1
              replace H := Option.bind_eq_some_iff.mp H
              obtain ⟨t139, A330, H⟩ := H
              replace H : (if t139 = true then (if t127 = true then ((level_Leq.f t133 a2).bind fun t140 => (if t140 = true then ((level_Leq.f a2 a0).bind fun t141 => (if t141 = true then ((level_Leq.f a2 a1).bind fun t142 => (if t142 = true then ((level_Leq.f a2 t134).bind fun t143 => (if t143 = true then ((curtilagelaw01_awake.f kj21).bind fun t144 => (some t144)) else (some false))) else ((curtilagelaw01_awake.f kj21).bind fun t145 => (some t145)))) else ((curtilagelaw01_awake.f kj21).bind fun t146 => (some t146)))) else (some false))) else ((level_Leq.f a2 a0).bind fun t147 => (if t147 = true then ((level_Leq.f a2 a1).bind fun t148 => (if t148 = true then ((level_Leq.f a2 t134).bind fun t149 => (if t149 = true then ((curtilagelaw01_awake.f kj21).bind fun t150 => (some t150)) else (some false))) else ((curtilagelaw01_awake.f kj21).bind fun t151 => (some t151)))) else ((curtilagelaw01_awake.f kj21).bind fun t152 => (some t152))))) else ((level_Leq.f a2 a0).bind fun t153 => (if t153 = true then ((level_Leq.f a2 a1).bind fun t154 => (if t154 = true then ((level_Leq.f a2 t134).bind fun t155 => (if t155 = true then ((curtilagelaw01_awake.f kj21).bind fun t156 => (some t156)) else (some false))) else ((curtilagelaw01_awake.f kj21).bind fun t157 => (some t157)))) else ((curtilagelaw01_awake.f kj21).bind fun t158 => (some t158))))) = some r := H
              have A33 := Aside0.mk A330
              clear A330
              by_cases c34 : t139 = true
              · subst c34
                have H1 : (if t127 = true then ((level_Leq.f t133 a2).bind fun t140 => (if t140 = true then ((level_Leq.f a2 a0).bind fun t141 => (if t141 = true then ((level_Leq.f a2 a1).bind fun t142 => (if t142 = true then ((level_Leq.f a2 t134).bind fun t143 => (if t143 = true then ((curtilagelaw01_awake.f kj21).bind fun t144 => (some t144)) else (some false))) else ((curtilagelaw01_awake.f kj21).bind fun t145 => (some t145)))) else ((curtilagelaw01_awake.f kj21).bind fun t146 => (some t146)))) else (some false))) else ((level_Leq.f a2 a0).bind fun t147 => (if t147 = true then ((level_Leq.f a2 a1).bind fun t148 => (if t148 = true then ((level_Leq.f a2 t134).bind fun t149 => (if t149 = true then ((curtilagelaw01_awake.f kj21).bind fun t150 => (some t150)) else (some false))) else ((curtilagelaw01_awake.f kj21).bind fun t151 => (some t151)))) else ((curtilagelaw01_awake.f kj21).bind fun t152 => (some t152))))) = some r := by rw [if_pos rfl] at H; exact H
                clear H
                have H := H1
                clear H1
                by_cases c35 : t127 = true
                · subst c35
                  have H1 : ((level_Leq.f t133 a2).bind fun t140 => (if t140 = true then ((level_Leq.f a2 a0).bind fun t141 => (if t141 = true then ((level_Leq.f a2 a1).bind fun t142 => (if t142 = true then ((level_Leq.f a2 t134).bind fun t143 => (if t143 = true then ((curtilagelaw01_awake.f kj21).bind fun t144 => (some t144)) else (some false))) else ((curtilagelaw01_awake.f kj21).bind fun t145 => (some t145)))) else ((curtilagelaw01_awake.f kj21).bind fun t146 => (some t146)))) else (some false))) = some r := by rw [if_pos rfl] at H; exact H
                  clear H
                  have H := H1
                  clear H1
                  replace H := Option.bind_eq_some_iff.mp H
                  obtain ⟨t140, A360, H⟩ := H
                  replace H : (if t140 = true then ((level_Leq.f a2 a0).bind fun t141 => (if t141 = true then ((level_Leq.f a2 a1).bind fun t142 => (if t142 = true then ((level_Leq.f a2 t134).bind fun t143 => (if t143 = true then ((curtilagelaw01_awake.f kj21).bind fun t144 => (some t144)) else (some false))) else ((curtilagelaw01_awake.f kj21).bind fun t145 => (some t145)))) else ((curtilagelaw01_awake.f kj21).bind fun t146 => (some t146)))) else (some false)) = some r := H
                  have A36 := Aside0.mk A360
                  clear A360
                  by_cases c37 : t140 = true
                  · subst c37
                    have H1 : ((level_Leq.f a2 a0).bind fun t141 => (if t141 = true then ((level_Leq.f a2 a1).bind fun t142 => (if t142 = true then ((level_Leq.f a2 t134).bind fun t143 => (if t143 = true then ((curtilagelaw01_awake.f kj21).bind fun t144 => (some t144)) else (some false))) else ((curtilagelaw01_awake.f kj21).bind fun t145 => (some t145)))) else ((curtilagelaw01_awake.f kj21).bind fun t146 => (some t146)))) = some r := by rw [if_pos rfl] at H; exact H
                    clear H
                    have H := H1
                    clear H1
                    replace H := Option.bind_eq_some_iff.mp H
                    obtain ⟨t141, A380, H⟩ := H
                    replace H : (if t141 = true then ((level_Leq.f a2 a1).bind fun t142 => (if t142 = true then ((level_Leq.f a2 t134).bind fun t143 => (if t143 = true then ((curtilagelaw01_awake.f kj21).bind fun t144 => (some t144)) else (some false))) else ((curtilagelaw01_awake.f kj21).bind fun t145 => (some t145)))) else ((curtilagelaw01_awake.f kj21).bind fun t146 => (some t146))) = some r := H
                    have A38 := Aside0.mk A380
                    clear A380
                    by_cases c39 : t141 = true
                    · subst c39
                      have H1 : ((level_Leq.f a2 a1).bind fun t142 => (if t142 = true then ((level_Leq.f a2 t134).bind fun t143 => (if t143 = true then ((curtilagelaw01_awake.f kj21).bind fun t144 => (some t144)) else (some false))) else ((curtilagelaw01_awake.f kj21).bind fun t145 => (some t145)))) = some r := by rw [if_pos rfl] at H; exact H
                      clear H
                      have H := H1
                      clear H1
                      replace H := Option.bind_eq_some_iff.mp H
                      obtain ⟨t142, A400, H⟩ := H
                      replace H : (if t142 = true then ((level_Leq.f a2 t134).bind fun t143 => (if t143 = true then ((curtilagelaw01_awake.f kj21).bind fun t144 => (some t144)) else (some false))) else ((curtilagelaw01_awake.f kj21).bind fun t145 => (some t145))) = some r := H
                      have A40 := Aside0.mk A400
                      clear A400
                      by_cases c41 : t142 = true
                      · subst c41
                        have H1 : ((level_Leq.f a2 t134).bind fun t143 => (if t143 = true then ((curtilagelaw01_awake.f kj21).bind fun t144 => (some t144)) else (some false))) = some r := by rw [if_pos rfl] at H; exact H
                        clear H
                        have H := H1
                        clear H1
                        replace H := Option.bind_eq_some_iff.mp H
                        obtain ⟨t143, A420, H⟩ := H
                        replace H : (if t143 = true then ((curtilagelaw01_awake.f kj21).bind fun t144 => (some t144)) else (some false)) = some r := H
                        have A42 := Aside0.mk A420
                        clear A420
                        by_cases c43 : t143 = true
                        · subst c43
                          have H1 : ((curtilagelaw01_awake.f kj21).bind fun t144 => (some t144)) = some r := by rw [if_pos rfl] at H; exact H
                          clear H
                          have H := H1
                          clear H1
                          replace H := Option.bind_eq_some_iff.mp H
                          obtain ⟨t144, A440, H⟩ := H
                          replace H : (some t144) = some r := H
                          have A44 := Aside0.mk A440
                          clear A440
                          obtain rfl := Option.some.inj H
                          go_wp2_with (first | ((with_reducible refine gate_callee (f := 15) rfl ?_); refine goesL_ (some 82) rfl rfl Try.func15 (by kernel_rfl) rfl #[.int .i64 a0, .int .i64 a2] rfl (by (try simp only [List.map_toArray, List.map_cons, List.map_nil]); first | done | rfl | (simp only [List.length_drop, List.length_take]; rfl)) ?_; (with_reducible refine (level_Leq.calls a0 a2 true _ A33.out).mono ?_); rintro e w' ⟨rfl, ⟨nd, rfl⟩⟩; refine ⟨_, rfl, ?_⟩) | (go_at_call 15; (with_reducible refine (level_Leq.calls t133 a2 true _ A36.out).mono ?_); rintro e w' ⟨rfl, ⟨nd, rfl⟩⟩) | (go_at_call 15; (with_reducible refine (level_Leq.calls a2 a0 true _ A38.out).mono ?_); rintro e w' ⟨rfl, ⟨nd, rfl⟩⟩) | (go_at_call 15; (with_reducible refine (level_Leq.calls a2 a1 true _ A40.out).mono ?_); rintro e w' ⟨rfl, ⟨nd, rfl⟩⟩) | (go_at_call 15; (with_reducible refine (level_Leq.calls a2 t134 true _ A42.out).mono ?_); rintro e w' ⟨rfl, ⟨nd, rfl⟩⟩) | ((with_reducible refine gate_callee (f := 14) rfl ?_); refine goesL_ (some 108) rfl rfl Try.func14 (by kernel_rfl) rfl #[] rfl (by (try simp only [List.map_toArray, List.map_cons, List.map_nil]); first | done | rfl | (simp only [List.length_drop, List.length_take]; rfl)) ?_; (with_reducible refine (curtilagelaw01_awake.calls kj21  t144 _ A44.out).mono ?_); rintro e w45 ⟨rfl, hb⟩; refine ⟨_, rfl, ?_⟩; have n0_ := Aside0.mk (below_step (by repeat (first | (with_reducible first | exact HB.out | apply below_alloc | apply pw_below_drewN | apply below_drew1) | exact HB.out)) hb); clear HB; have HB := n0_; clear n0_; (try clear hb); (try clear hb2); (try clear hk); (try clear hi)))
                          go_ret
                          exact ⟨by first | rfl | (simp [errW_none, errW_some] <;> rfl) | (simp [*, errW_none, errW_some] <;> rfl), by repeat (first | (with_reducible first | exact HB.out | apply below_alloc | apply pw_below_drewN | apply below_drew1) | exact HB.out)⟩
                        · replace c43 := Bool.eq_false_iff.mpr c43
                          subst c43
                          have H1 : (some false) = some r := by rw [if_neg (show ¬ (false = true) by decide)] at H; exact H
                          clear H
                          have H := H1
                          clear H1
                          obtain rfl := Option.some.inj H
                          go_wp2_with (first | ((with_reducible refine gate_callee (f := 15) rfl ?_); refine goesL_ (some 82) rfl rfl Try.func15 (by kernel_rfl) rfl #[.int .i64 a0, .int .i64 a2] rfl (by (try simp only [List.map_toArray, List.map_cons, List.map_nil]); first | done | rfl | (simp only [List.length_drop, List.length_take]; rfl)) ?_; (with_reducible refine (level_Leq.calls a0 a2 true _ A33.out).mono ?_); rintro e w' ⟨rfl, ⟨nd, rfl⟩⟩; refine ⟨_, rfl, ?_⟩) | (go_at_call 15; (with_reducible refine (level_Leq.calls t133 a2 true _ A36.out).mono ?_); rintro e w' ⟨rfl, ⟨nd, rfl⟩⟩) | (go_at_call 15; (with_reducible refine (level_Leq.calls a2 a0 true _ A38.out).mono ?_); rintro e w' ⟨rfl, ⟨nd, rfl⟩⟩) | (go_at_call 15; (with_reducible refine (level_Leq.calls a2 a1 true _ A40.out).mono ?_); rintro e w' ⟨rfl, ⟨nd, rfl⟩⟩) | (go_at_call 15; (with_reducible refine (level_Leq.calls a2 t134 false _ A42.out).mono ?_); rintro e w' ⟨rfl, ⟨nd, rfl⟩⟩))
                          go_ret
                          exact ⟨by first | rfl | (simp [errW_none, errW_some] <;> rfl) | (simp [*, errW_none, errW_some] <;> rfl), by repeat (first | (with_reducible first | exact HB.out | apply below_alloc | apply pw_below_drewN | apply below_drew1) | exact HB.out)⟩
                      · replace c41 := Bool.eq_false_iff.mpr c41
                        subst c41
                        have H1 : ((curtilagelaw01_awake.f kj21).bind fun t145 => (some t145)) = some r := by rw [if_neg (show ¬ (false = true) by decide)] at H; exact H
                        clear H
                        have H := H1
                        clear H1
                        replace H := Option.bind_eq_some_iff.mp H
                        obtain ⟨t145, A460, H⟩ := H
                        replace H : (some t145) = some r := H
                        have A46 := Aside0.mk A460
                        clear A460
                        obtain rfl := Option.some.inj H
                        go_wp2_with (first | ((with_reducible refine gate_callee (f := 15) rfl ?_); refine goesL_ (some 82) rfl rfl Try.func15 (by kernel_rfl) rfl #[.int .i64 a0, .int .i64 a2] rfl (by (try simp only [List.map_toArray, List.map_cons, List.map_nil]); first | done | rfl | (simp only [List.length_drop, List.length_take]; rfl)) ?_; (with_reducible refine (level_Leq.calls a0 a2 true _ A33.out).mono ?_); rintro e w' ⟨rfl, ⟨nd, rfl⟩⟩; refine ⟨_, rfl, ?_⟩) | (go_at_call 15; (with_reducible refine (level_Leq.calls t133 a2 true _ A36.out).mono ?_); rintro e w' ⟨rfl, ⟨nd, rfl⟩⟩) | (go_at_call 15; (with_reducible refine (level_Leq.calls a2 a0 true _ A38.out).mono ?_); rintro e w' ⟨rfl, ⟨nd, rfl⟩⟩) | (go_at_call 15; (with_reducible refine (level_Leq.calls a2 a1 false _ A40.out).mono ?_); rintro e w' ⟨rfl, ⟨nd, rfl⟩⟩) | ((with_reducible refine gate_callee (f := 14) rfl ?_); refine goesL_ (some 108) rfl rfl Try.func14 (by kernel_rfl) rfl #[] rfl (by (try simp only [List.map_toArray, List.map_cons, List.map_nil]); first | done | rfl | (simp only [List.length_drop, List.length_take]; rfl)) ?_; (with_reducible refine (curtilagelaw01_awake.calls kj21  t145 _ A46.out).mono ?_); rintro e w47 ⟨rfl, hb⟩; refine ⟨_, rfl, ?_⟩; have n0_ := Aside0.mk (below_step (by repeat (first | (with_reducible first | exact HB.out | apply below_alloc | apply pw_below_drewN | apply below_drew1) | exact HB.out)) hb); clear HB; have HB := n0_; clear n0_; (try clear hb); (try clear hb2); (try clear hk); (try clear hi)))
                        go_ret
                        exact ⟨by first | rfl | (simp [errW_none, errW_some] <;> rfl) | (simp [*, errW_none, errW_some] <;> rfl), by repeat (first | (with_reducible first | exact HB.out | apply below_alloc | apply pw_below_drewN | apply below_drew1) | exact HB.out)⟩
                    · replace c39 := Bool.eq_false_iff.mpr c39
                      subst c39
                      have H1 : ((curtilagelaw01_awake.f kj21).bind fun t146 => (some t146)) = some r := by rw [if_neg (show ¬ (false = true) by decide)] at H; exact H
                      clear H
                      have H := H1
                      clear H1
                      replace H := Option.bind_eq_some_iff.mp H
                      obtain ⟨t146, A480, H⟩ := H
                      replace H : (some t146) = some r := H
                      have A48 := Aside0.mk A480
                      clear A480
                      obtain rfl := Option.some.inj H
                      go_wp2_with (first | ((with_reducible refine gate_callee (f := 15) rfl ?_); refine goesL_ (some 82) rfl rfl Try.func15 (by kernel_rfl) rfl #[.int .i64 a0, .int .i64 a2] rfl (by (try simp only [List.map_toArray, List.map_cons, List.map_nil]); first | done | rfl | (simp only [List.length_drop, List.length_take]; rfl)) ?_; (with_reducible refine (level_Leq.calls a0 a2 true _ A33.out).mono ?_); rintro e w' ⟨rfl, ⟨nd, rfl⟩⟩; refine ⟨_, rfl, ?_⟩) | (go_at_call 15; (with_reducible refine (level_Leq.calls t133 a2 true _ A36.out).mono ?_); rintro e w' ⟨rfl, ⟨nd, rfl⟩⟩) | (go_at_call 15; (with_reducible refine (level_Leq.calls a2 a0 false _ A38.out).mono ?_); rintro e w' ⟨rfl, ⟨nd, rfl⟩⟩) | ((with_reducible refine gate_callee (f := 14) rfl ?_); refine goesL_ (some 108) rfl rfl Try.func14 (by kernel_rfl) rfl #[] rfl (by (try simp only [List.map_toArray, List.map_cons, List.map_nil]); first | done | rfl | (simp only [List.length_drop, List.length_take]; rfl)) ?_; (with_reducible refine (curtilagelaw01_awake.calls kj21  t146 _ A48.out).mono ?_); rintro e w49 ⟨rfl, hb⟩; refine ⟨_, rfl, ?_⟩; have n0_ := Aside0.mk (below_step (by repeat (first | (with_reducible first | exact HB.out | apply below_alloc | apply pw_below_drewN | apply below_drew1) | exact HB.out)) hb); clear HB; have HB := n0_; clear n0_; (try clear hb); (try clear hb2); (try clear hk); (try clear hi)))
                      go_ret
                      exact ⟨by first | rfl | (simp [errW_none, errW_some] <;> rfl) | (simp [*, errW_none, errW_some] <;> rfl), by repeat (first | (with_reducible first | exact HB.out | apply below_alloc | apply pw_below_drewN | apply below_drew1) | exact HB.out)⟩
                  · replace c37 := Bool.eq_false_iff.mpr c37
                    subst c37
                    have H1 : (some false) = some r := by rw [if_neg (show ¬ (false = true) by decide)] at H; exact H
                    clear H
                    have H := H1
                    clear H1
                    obtain rfl := Option.some.inj H
                    go_wp2_with (first | ((with_reducible refine gate_callee (f := 15) rfl ?_); refine goesL_ (some 82) rfl rfl Try.func15 (by kernel_rfl) rfl #[.int .i64 a0, .int .i64 a2] rfl (by (try simp only [List.map_toArray, List.map_cons, List.map_nil]); first | done | rfl | (simp only [List.length_drop, List.length_take]; rfl)) ?_; (with_reducible refine (level_Leq.calls a0 a2 true _ A33.out).mono ?_); rintro e w' ⟨rfl, ⟨nd, rfl⟩⟩; refine ⟨_, rfl, ?_⟩) | (go_at_call 15; (with_reducible refine (level_Leq.calls t133 a2 false _ A36.out).mono ?_); rintro e w' ⟨rfl, ⟨nd, rfl⟩⟩))
                    go_ret
                    exact ⟨by first | rfl | (simp [errW_none, errW_some] <;> rfl) | (simp [*, errW_none, errW_some] <;> rfl), by repeat (first | (with_reducible first | exact HB.out | apply below_alloc | apply pw_below_drewN | apply below_drew1) | exact HB.out)⟩
                · replace c35 := Bool.eq_false_iff.mpr c35
                  subst c35
                  have H1 : ((level_Leq.f a2 a0).bind fun t147 => (if t147 = true then ((level_Leq.f a2 a1).bind fun t148 => (if t148 = true then ((level_Leq.f a2 t134).bind fun t149 => (if t149 = true then ((curtilagelaw01_awake.f kj21).bind fun t150 => (some t150)) else (some false))) else ((curtilagelaw01_awake.f kj21).bind fun t151 => (some t151)))) else ((curtilagelaw01_awake.f kj21).bind fun t152 => (some t152)))) = some r := by rw [if_neg (show ¬ (false = true) by decide)] at H; exact H
                  clear H
                  have H := H1
                  clear H1
                  replace H := Option.bind_eq_some_iff.mp H
                  obtain ⟨t147, A500, H⟩ := H
                  replace H : (if t147 = true then ((level_Leq.f a2 a1).bind fun t148 => (if t148 = true then ((level_Leq.f a2 t134).bind fun t149 => (if t149 = true then ((curtilagelaw01_awake.f kj21).bind fun t150 => (some t150)) else (some false))) else ((curtilagelaw01_awake.f kj21).bind fun t151 => (some t151)))) else ((curtilagelaw01_awake.f kj21).bind fun t152 => (some t152))) = some r := H
                  have A50 := Aside0.mk A500
                  clear A500
                  by_cases c51 : t147 = true
                  · subst c51
                    have H1 : ((level_Leq.f a2 a1).bind fun t148 => (if t148 = true then ((level_Leq.f a2 t134).bind fun t149 => (if t149 = true then ((curtilagelaw01_awake.f kj21).bind fun t150 => (some t150)) else (some false))) else ((curtilagelaw01_awake.f kj21).bind fun t151 => (some t151)))) = some r := by rw [if_pos rfl] at H; exact H
                    clear H
                    have H := H1
                    clear H1
                    replace H := Option.bind_eq_some_iff.mp H
                    obtain ⟨t148, A520, H⟩ := H
                    replace H : (if t148 = true then ((level_Leq.f a2 t134).bind fun t149 => (if t149 = true then ((curtilagelaw01_awake.f kj21).bind fun t150 => (some t150)) else (some false))) else ((curtilagelaw01_awake.f kj21).bind fun t151 => (some t151))) = some r := H
                    have A52 := Aside0.mk A520
                    clear A520
                    by_cases c53 : t148 = true
                    · subst c53
                      have H1 : ((level_Leq.f a2 t134).bind fun t149 => (if t149 = true then ((curtilagelaw01_awake.f kj21).bind fun t150 => (some t150)) else (some false))) = some r := by rw [if_pos rfl] at H; exact H
                      clear H
                      have H := H1
                      clear H1
                      replace H := Option.bind_eq_some_iff.mp H
                      obtain ⟨t149, A540, H⟩ := H
                      replace H : (if t149 = true then ((curtilagelaw01_awake.f kj21).bind fun t150 => (some t150)) else (some false)) = some r := H
                      have A54 := Aside0.mk A540
                      clear A540
                      by_cases c55 : t149 = true
                      · subst c55
                        have H1 : ((curtilagelaw01_awake.f kj21).bind fun t150 => (some t150)) = some r := by rw [if_pos rfl] at H; exact H
                        clear H
                        have H := H1
                        clear H1
                        replace H := Option.bind_eq_some_iff.mp H
                        obtain ⟨t150, A560, H⟩ := H
                        replace H : (some t150) = some r := H
                        have A56 := Aside0.mk A560
                        clear A560
                        obtain rfl := Option.some.inj H
                        go_wp2_with (first | ((with_reducible refine gate_callee (f := 15) rfl ?_); refine goesL_ (some 82) rfl rfl Try.func15 (by kernel_rfl) rfl #[.int .i64 a0, .int .i64 a2] rfl (by (try simp only [List.map_toArray, List.map_cons, List.map_nil]); first | done | rfl | (simp only [List.length_drop, List.length_take]; rfl)) ?_; (with_reducible refine (level_Leq.calls a0 a2 true _ A33.out).mono ?_); rintro e w' ⟨rfl, ⟨nd, rfl⟩⟩; refine ⟨_, rfl, ?_⟩) | (go_at_call 15; (with_reducible refine (level_Leq.calls a2 a0 true _ A50.out).mono ?_); rintro e w' ⟨rfl, ⟨nd, rfl⟩⟩) | (go_at_call 15; (with_reducible refine (level_Leq.calls a2 a1 true _ A52.out).mono ?_); rintro e w' ⟨rfl, ⟨nd, rfl⟩⟩) | (go_at_call 15; (with_reducible refine (level_Leq.calls a2 t134 true _ A54.out).mono ?_); rintro e w' ⟨rfl, ⟨nd, rfl⟩⟩) | ((with_reducible refine gate_callee (f := 14) rfl ?_); refine goesL_ (some 108) rfl rfl Try.func14 (by kernel_rfl) rfl #[] rfl (by (try simp only [List.map_toArray, List.map_cons, List.map_nil]); first | done | rfl | (simp only [List.length_drop, List.length_take]; rfl)) ?_; (with_reducible refine (curtilagelaw01_awake.calls kj21  t150 _ A56.out).mono ?_); rintro e w57 ⟨rfl, hb⟩; refine ⟨_, rfl, ?_⟩; have n0_ := Aside0.mk (below_step (by repeat (first | (with_reducible first | exact HB.out | apply below_alloc | apply pw_below_drewN | apply below_drew1) | exact HB.out)) hb); clear HB; have HB := n0_; clear n0_; (try clear hb); (try clear hb2); (try clear hk); (try clear hi)))
                        go_ret
                        exact ⟨by first | rfl | (simp [errW_none, errW_some] <;> rfl) | (simp [*, errW_none, errW_some] <;> rfl), by repeat (first | (with_reducible first | exact HB.out | apply below_alloc | apply pw_below_drewN | apply below_drew1) | exact HB.out)⟩
                      · replace c55 := Bool.eq_false_iff.mpr c55
                        subst c55
                        have H1 : (some false) = some r := by rw [if_neg (show ¬ (false = true) by decide)] at H; exact H
                        clear H
                        have H := H1
                        clear H1
                        obtain rfl := Option.some.inj H
                        go_wp2_with (first | ((with_reducible refine gate_callee (f := 15) rfl ?_); refine goesL_ (some 82) rfl rfl Try.func15 (by kernel_rfl) rfl #[.int .i64 a0, .int .i64 a2] rfl (by (try simp only [List.map_toArray, List.map_cons, List.map_nil]); first | done | rfl | (simp only [List.length_drop, List.length_take]; rfl)) ?_; (with_reducible refine (level_Leq.calls a0 a2 true _ A33.out).mono ?_); rintro e w' ⟨rfl, ⟨nd, rfl⟩⟩; refine ⟨_, rfl, ?_⟩) | (go_at_call 15; (with_reducible refine (level_Leq.calls a2 a0 true _ A50.out).mono ?_); rintro e w' ⟨rfl, ⟨nd, rfl⟩⟩) | (go_at_call 15; (with_reducible refine (level_Leq.calls a2 a1 true _ A52.out).mono ?_); rintro e w' ⟨rfl, ⟨nd, rfl⟩⟩) | (go_at_call 15; (with_reducible refine (level_Leq.calls a2 t134 false _ A54.out).mono ?_); rintro e w' ⟨rfl, ⟨nd, rfl⟩⟩))
                        go_ret
                        exact ⟨by first | rfl | (simp [errW_none, errW_some] <;> rfl) | (simp [*, errW_none, errW_some] <;> rfl), by repeat (first | (with_reducible first | exact HB.out | apply below_alloc | apply pw_below_drewN | apply below_drew1) | exact HB.out)⟩
                    · replace c53 := Bool.eq_false_iff.mpr c53
                      subst c53
                      have H1 : ((curtilagelaw01_awake.f kj21).bind fun t151 => (some t151)) = some r := by rw [if_neg (show ¬ (false = true) by decide)] at H; exact H
                      clear H
                      have H := H1
                      clear H1
                      replace H := Option.bind_eq_some_iff.mp H
                      obtain ⟨t151, A580, H⟩ := H
                      replace H : (some t151) = some r := H
                      have A58 := Aside0.mk A580
                      clear A580
                      obtain rfl := Option.some.inj H
                      go_wp2_with (first | ((with_reducible refine gate_callee (f := 15) rfl ?_); refine goesL_ (some 82) rfl rfl Try.func15 (by kernel_rfl) rfl #[.int .i64 a0, .int .i64 a2] rfl (by (try simp only [List.map_toArray, List.map_cons, List.map_nil]); first | done | rfl | (simp only [List.length_drop, List.length_take]; rfl)) ?_; (with_reducible refine (level_Leq.calls a0 a2 true _ A33.out).mono ?_); rintro e w' ⟨rfl, ⟨nd, rfl⟩⟩; refine ⟨_, rfl, ?_⟩) | (go_at_call 15; (with_reducible refine (level_Leq.calls a2 a0 true _ A50.out).mono ?_); rintro e w' ⟨rfl, ⟨nd, rfl⟩⟩) | (go_at_call 15; (with_reducible refine (level_Leq.calls a2 a1 false _ A52.out).mono ?_); rintro e w' ⟨rfl, ⟨nd, rfl⟩⟩) | ((with_reducible refine gate_callee (f := 14) rfl ?_); refine goesL_ (some 108) rfl rfl Try.func14 (by kernel_rfl) rfl #[] rfl (by (try simp only [List.map_toArray, List.map_cons, List.map_nil]); first | done | rfl | (simp only [List.length_drop, List.length_take]; rfl)) ?_; (with_reducible refine (curtilagelaw01_awake.calls kj21  t151 _ A58.out).mono ?_); rintro e w59 ⟨rfl, hb⟩; refine ⟨_, rfl, ?_⟩; have n0_ := Aside0.mk (below_step (by repeat (first | (with_reducible first | exact HB.out | apply below_alloc | apply pw_below_drewN | apply below_drew1) | exact HB.out)) hb); clear HB; have HB := n0_; clear n0_; (try clear hb); (try clear hb2); (try clear hk); (try clear hi)))
                      go_ret
                      exact ⟨by first | rfl | (simp [errW_none, errW_some] <;> rfl) | (simp [*, errW_none, errW_some] <;> rfl), by repeat (first | (with_reducible first | exact HB.out | apply below_alloc | apply pw_below_drewN | apply below_drew1) | exact HB.out)⟩
                  · replace c51 := Bool.eq_false_iff.mpr c51
                    subst c51
                    have H1 : ((curtilagelaw01_awake.f kj21).bind fun t152 => (some t152)) = some r := by rw [if_neg (show ¬ (false = true) by decide)] at H; exact H
                    clear H
                    have H := H1
                    clear H1
                    replace H := Option.bind_eq_some_iff.mp H
                    obtain ⟨t152, A600, H⟩ := H
                    replace H : (some t152) = some r := H
                    have A60 := Aside0.mk A600
                    clear A600
                    obtain rfl := Option.some.inj H
                    go_wp2_with (first | ((with_reducible refine gate_callee (f := 15) rfl ?_); refine goesL_ (some 82) rfl rfl Try.func15 (by kernel_rfl) rfl #[.int .i64 a0, .int .i64 a2] rfl (by (try simp only [List.map_toArray, List.map_cons, List.map_nil]); first | done | rfl | (simp only [List.length_drop, List.length_take]; rfl)) ?_; (with_reducible refine (level_Leq.calls a0 a2 true _ A33.out).mono ?_); rintro e w' ⟨rfl, ⟨nd, rfl⟩⟩; refine ⟨_, rfl, ?_⟩) | (go_at_call 15; (with_reducible refine (level_Leq.calls a2 a0 false _ A50.out).mono ?_); rintro e w' ⟨rfl, ⟨nd, rfl⟩⟩) | ((with_reducible refine gate_callee (f := 14) rfl ?_); refine goesL_ (some 108) rfl rfl Try.func14 (by kernel_rfl) rfl #[] rfl (by (try simp only [List.map_toArray, List.map_cons, List.map_nil]); first | done | rfl | (simp only [List.length_drop, List.length_take]; rfl)) ?_; (with_reducible refine (curtilagelaw01_awake.calls kj21  t152 _ A60.out).mono ?_); rintro e w61 ⟨rfl, hb⟩; refine ⟨_, rfl, ?_⟩; have n0_ := Aside0.mk (below_step (by repeat (first | (with_reducible first | exact HB.out | apply below_alloc | apply pw_below_drewN | apply below_drew1) | exact HB.out)) hb); clear HB; have HB := n0_; clear n0_; (try clear hb); (try clear hb2); (try clear hk); (try clear hi)))
                    go_ret
                    exact ⟨by first | rfl | (simp [errW_none, errW_some] <;> rfl) | (simp [*, errW_none, errW_some] <;> rfl), by repeat (first | (with_reducible first | exact HB.out | apply below_alloc | apply pw_below_drewN | apply below_drew1) | exact HB.out)⟩
              · replace c34 := Bool.eq_false_iff.mpr c34
                subst c34
                have H1 : ((level_Leq.f a2 a0).bind fun t153 => (if t153 = true then ((level_Leq.f a2 a1).bind fun t154 => (if t154 = true then ((level_Leq.f a2 t134).bind fun t155 => (if t155 = true then ((curtilagelaw01_awake.f kj21).bind fun t156 => (some t156)) else (some false))) else ((curtilagelaw01_awake.f kj21).bind fun t157 => (some t157)))) else ((curtilagelaw01_awake.f kj21).bind fun t158 => (some t158)))) = some r := by rw [if_neg (show ¬ (false = true) by decide)] at H; exact H
                clear H
                have H := H1
                clear H1
                replace H := Option.bind_eq_some_iff.mp H
                obtain ⟨t153, A620, H⟩ := H
                replace H : (if t153 = true then ((level_Leq.f a2 a1).bind fun t154 => (if t154 = true then ((level_Leq.f a2 t134).bind fun t155 => (if t155 = true then ((curtilagelaw01_awake.f kj21).bind fun t156 => (some t156)) else (some false))) else ((curtilagelaw01_awake.f kj21).bind fun t157 => (some t157)))) else ((curtilagelaw01_awake.f kj21).bind fun t158 => (some t158))) = some r := H
                have A62 := Aside0.mk A620
                clear A620
                by_cases c63 : t153 = true
                · subst c63
                  have H1 : ((level_Leq.f a2 a1).bind fun t154 => (if t154 = true then ((level_Leq.f a2 t134).bind fun t155 => (if t155 = true then ((curtilagelaw01_awake.f kj21).bind fun t156 => (some t156)) else (some false))) else ((curtilagelaw01_awake.f kj21).bind fun t157 => (some t157)))) = some r := by rw [if_pos rfl] at H; exact H
                  clear H
                  have H := H1
                  clear H1
                  replace H := Option.bind_eq_some_iff.mp H
                  obtain ⟨t154, A640, H⟩ := H
                  replace H : (if t154 = true then ((level_Leq.f a2 t134).bind fun t155 => (if t155 = true then ((curtilagelaw01_awake.f kj21).bind fun t156 => (some t156)) else (some false))) else ((curtilagelaw01_awake.f kj21).bind fun t157 => (some t157))) = some r := H
                  have A64 := Aside0.mk A640
                  clear A640
                  by_cases c65 : t154 = true
                  · subst c65
                    have H1 : ((level_Leq.f a2 t134).bind fun t155 => (if t155 = true then ((curtilagelaw01_awake.f kj21).bind fun t156 => (some t156)) else (some false))) = some r := by rw [if_pos rfl] at H; exact H
                    clear H
                    have H := H1
                    clear H1
                    replace H := Option.bind_eq_some_iff.mp H
                    obtain ⟨t155, A660, H⟩ := H
                    replace H : (if t155 = true then ((curtilagelaw01_awake.f kj21).bind fun t156 => (some t156)) else (some false)) = some r := H
                    have A66 := Aside0.mk A660
                    clear A660
                    by_cases c67 : t155 = true
                    · subst c67
                      have H1 : ((curtilagelaw01_awake.f kj21).bind fun t156 => (some t156)) = some r := by rw [if_pos rfl] at H; exact H
                      clear H
                      have H := H1
                      clear H1
                      replace H := Option.bind_eq_some_iff.mp H
                      obtain ⟨t156, A680, H⟩ := H
                      replace H : (some t156) = some r := H
                      have A68 := Aside0.mk A680
                      clear A680
                      obtain rfl := Option.some.inj H
                      go_wp2_with (first | ((with_reducible refine gate_callee (f := 15) rfl ?_); refine goesL_ (some 82) rfl rfl Try.func15 (by kernel_rfl) rfl #[.int .i64 a0, .int .i64 a2] rfl (by (try simp only [List.map_toArray, List.map_cons, List.map_nil]); first | done | rfl | (simp only [List.length_drop, List.length_take]; rfl)) ?_; (with_reducible refine (level_Leq.calls a0 a2 false _ A33.out).mono ?_); rintro e w' ⟨rfl, ⟨nd, rfl⟩⟩; refine ⟨_, rfl, ?_⟩) | (go_at_call 15; (with_reducible refine (level_Leq.calls a2 a0 true _ A62.out).mono ?_); rintro e w' ⟨rfl, ⟨nd, rfl⟩⟩) | (go_at_call 15; (with_reducible refine (level_Leq.calls a2 a1 true _ A64.out).mono ?_); rintro e w' ⟨rfl, ⟨nd, rfl⟩⟩) | (go_at_call 15; (with_reducible refine (level_Leq.calls a2 t134 true _ A66.out).mono ?_); rintro e w' ⟨rfl, ⟨nd, rfl⟩⟩) | ((with_reducible refine gate_callee (f := 14) rfl ?_); refine goesL_ (some 108) rfl rfl Try.func14 (by kernel_rfl) rfl #[] rfl (by (try simp only [List.map_toArray, List.map_cons, List.map_nil]); first | done | rfl | (simp only [List.length_drop, List.length_take]; rfl)) ?_; (with_reducible refine (curtilagelaw01_awake.calls kj21  t156 _ A68.out).mono ?_); rintro e w69 ⟨rfl, hb⟩; refine ⟨_, rfl, ?_⟩; have n0_ := Aside0.mk (below_step (by repeat (first | (with_reducible first | exact HB.out | apply below_alloc | apply pw_below_drewN | apply below_drew1) | exact HB.out)) hb); clear HB; have HB := n0_; clear n0_; (try clear hb); (try clear hb2); (try clear hk); (try clear hi)))
                      go_ret
                      exact ⟨by first | rfl | (simp [errW_none, errW_some] <;> rfl) | (simp [*, errW_none, errW_some] <;> rfl), by repeat (first | (with_reducible first | exact HB.out | apply below_alloc | apply pw_below_drewN | apply below_drew1) | exact HB.out)⟩
                    · replace c67 := Bool.eq_false_iff.mpr c67
                      subst c67
                      have H1 : (some false) = some r := by rw [if_neg (show ¬ (false = true) by decide)] at H; exact H
                      clear H
                      have H := H1
                      clear H1
                      obtain rfl := Option.some.inj H
                      go_wp2_with (first | ((with_reducible refine gate_callee (f := 15) rfl ?_); refine goesL_ (some 82) rfl rfl Try.func15 (by kernel_rfl) rfl #[.int .i64 a0, .int .i64 a2] rfl (by (try simp only [List.map_toArray, List.map_cons, List.map_nil]); first | done | rfl | (simp only [List.length_drop, List.length_take]; rfl)) ?_; (with_reducible refine (level_Leq.calls a0 a2 false _ A33.out).mono ?_); rintro e w' ⟨rfl, ⟨nd, rfl⟩⟩; refine ⟨_, rfl, ?_⟩) | (go_at_call 15; (with_reducible refine (level_Leq.calls a2 a0 true _ A62.out).mono ?_); rintro e w' ⟨rfl, ⟨nd, rfl⟩⟩) | (go_at_call 15; (with_reducible refine (level_Leq.calls a2 a1 true _ A64.out).mono ?_); rintro e w' ⟨rfl, ⟨nd, rfl⟩⟩) | (go_at_call 15; (with_reducible refine (level_Leq.calls a2 t134 false _ A66.out).mono ?_); rintro e w' ⟨rfl, ⟨nd, rfl⟩⟩))
                      go_ret
                      exact ⟨by first | rfl | (simp [errW_none, errW_some] <;> rfl) | (simp [*, errW_none, errW_some] <;> rfl), by repeat (first | (with_reducible first | exact HB.out | apply below_alloc | apply pw_below_drewN | apply below_drew1) | exact HB.out)⟩
                  · replace c65 := Bool.eq_false_iff.mpr c65
                    subst c65
                    have H1 : ((curtilagelaw01_awake.f kj21).bind fun t157 => (some t157)) = some r := by rw [if_neg (show ¬ (false = true) by decide)] at H; exact H
                    clear H
                    have H := H1
                    clear H1
                    replace H := Option.bind_eq_some_iff.mp H
                    obtain ⟨t157, A700, H⟩ := H
                    replace H : (some t157) = some r := H
                    have A70 := Aside0.mk A700
                    clear A700
                    obtain rfl := Option.some.inj H
                    go_wp2_with (first | ((with_reducible refine gate_callee (f := 15) rfl ?_); refine goesL_ (some 82) rfl rfl Try.func15 (by kernel_rfl) rfl #[.int .i64 a0, .int .i64 a2] rfl (by (try simp only [List.map_toArray, List.map_cons, List.map_nil]); first | done | rfl | (simp only [List.length_drop, List.length_take]; rfl)) ?_; (with_reducible refine (level_Leq.calls a0 a2 false _ A33.out).mono ?_); rintro e w' ⟨rfl, ⟨nd, rfl⟩⟩; refine ⟨_, rfl, ?_⟩) | (go_at_call 15; (with_reducible refine (level_Leq.calls a2 a0 true _ A62.out).mono ?_); rintro e w' ⟨rfl, ⟨nd, rfl⟩⟩) | (go_at_call 15; (with_reducible refine (level_Leq.calls a2 a1 false _ A64.out).mono ?_); rintro e w' ⟨rfl, ⟨nd, rfl⟩⟩) | ((with_reducible refine gate_callee (f := 14) rfl ?_); refine goesL_ (some 108) rfl rfl Try.func14 (by kernel_rfl) rfl #[] rfl (by (try simp only [List.map_toArray, List.map_cons, List.map_nil]); first | done | rfl | (simp only [List.length_drop, List.length_take]; rfl)) ?_; (with_reducible refine (curtilagelaw01_awake.calls kj21  t157 _ A70.out).mono ?_); rintro e w71 ⟨rfl, hb⟩; refine ⟨_, rfl, ?_⟩; have n0_ := Aside0.mk (below_step (by repeat (first | (with_reducible first | exact HB.out | apply below_alloc | apply pw_below_drewN | apply below_drew1) | exact HB.out)) hb); clear HB; have HB := n0_; clear n0_; (try clear hb); (try clear hb2); (try clear hk); (try clear hi)))
                    go_ret
                    exact ⟨by first | rfl | (simp [errW_none, errW_some] <;> rfl) | (simp [*, errW_none, errW_some] <;> rfl), by repeat (first | (with_reducible first | exact HB.out | apply below_alloc | apply pw_below_drewN | apply below_drew1) | exact HB.out)⟩
                · replace c63 := Bool.eq_false_iff.mpr c63
                  subst c63
                  have H1 : ((curtilagelaw01_awake.f kj21).bind fun t158 => (some t158)) = some r := by rw [if_neg (show ¬ (false = true) by decide)] at H; exact H
                  clear H
                  have H := H1
                  clear H1
                  replace H := Option.bind_eq_some_iff.mp H
                  obtain ⟨t158, A720, H⟩ := H
                  replace H : (some t158) = some r := H
                  have A72 := Aside0.mk A720
                  clear A720
                  obtain rfl := Option.some.inj H
                  go_wp2_with (first | ((with_reducible refine gate_callee (f := 15) rfl ?_); refine goesL_ (some 82) rfl rfl Try.func15 (by kernel_rfl) rfl #[.int .i64 a0, .int .i64 a2] rfl (by (try simp only [List.map_toArray, List.map_cons, List.map_nil]); first | done | rfl | (simp only [List.length_drop, List.length_take]; rfl)) ?_; (with_reducible refine (level_Leq.calls a0 a2 false _ A33.out).mono ?_); rintro e w' ⟨rfl, ⟨nd, rfl⟩⟩; refine ⟨_, rfl, ?_⟩) | (go_at_call 15; (with_reducible refine (level_Leq.calls a2 a0 false _ A62.out).mono ?_); rintro e w' ⟨rfl, ⟨nd, rfl⟩⟩) | ((with_reducible refine gate_callee (f := 14) rfl ?_); refine goesL_ (some 108) rfl rfl Try.func14 (by kernel_rfl) rfl #[] rfl (by (try simp only [List.map_toArray, List.map_cons, List.map_nil]); first | done | rfl | (simp only [List.length_drop, List.length_take]; rfl)) ?_; (with_reducible refine (curtilagelaw01_awake.calls kj21  t158 _ A72.out).mono ?_); rintro e w73 ⟨rfl, hb⟩; refine ⟨_, rfl, ?_⟩; have n0_ := Aside0.mk (below_step (by repeat (first | (with_reducible first | exact HB.out | apply below_alloc | apply pw_below_drewN | apply below_drew1) | exact HB.out)) hb); clear HB; have HB := n0_; clear n0_; (try clear hb); (try clear hb2); (try clear hk); (try clear hi)))
                  go_ret
                  exact ⟨by first | rfl | (simp [errW_none, errW_some] <;> rfl) | (simp [*, errW_none, errW_some] <;> rfl), by repeat (first | (with_reducible first | exact HB.out | apply below_alloc | apply pw_below_drewN | apply below_drew1) | exact HB.out)⟩

/-- THE ONE PURE STATEMENT of curtilagelaw01_LevelOrder: yours. -/
def curtilagelaw01_LevelOrder.Pure : Prop := ∀ (a0 : Int) (a1 : Int) (a2 : Int), (Lit.int .i64 a0).wf = true → (Lit.int .i64 a1).wf = true → (Lit.int .i64 a2).wf = true → ∃ k, curtilagelaw01_LevelOrder.f k a0 a1 a2 = some true
theorem curtilagelaw01_LevelOrder.walk (P : curtilagelaw01_LevelOrder.Pure) (a0 : Int) (a1 : Int) (a2 : Int) (w : World) (w0 : (Lit.int .i64 a0).wf = true) (w1 : (Lit.int .i64 a1).wf = true) (w2 : (Lit.int .i64 a2).wf = true) :
    Calls Try.prog 4 #[.int .i64 a0, .int .i64 a1, .int .i64 a2] w fun e w' => e = .returned (.bool true) ∧ Below w.heap.size w w' := by
  obtain ⟨k, h⟩ := P a0 a1 a2 w0 w1 w2
  refine (curtilagelaw01_LevelOrder.calls k a0 a1 a2 true w h).mono ?_
  rintro e w' ⟨rfl, hd⟩
  exact ⟨rfl, hd⟩

end Go.Proofs.Ytocfelaklhpdlaa.PLevelOrder
