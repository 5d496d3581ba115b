-- PRINTED BY print.sh 35421559b90ae4d0a3588c463048766b98c2df88dd9212a6774a882060cdf62d: not written by this session
import Derived.Test.YtocfelaklhpdlaaPLevelTellsx0
import Derived.Test.YtocfelaklhpdlaaPLevelTellsx1
namespace Go.Proofs.Ytocfelaklhpdlaa.PLevelTells
open Go.RowKit Go.Proofs.YtocfelaklhpdlaaW.PrintWords Go.Proofs.YtocfelaklhpdlaaW.PrintLast Go.Proofs.YtocfelaklhpdlaaW.PrintMore
attribute [local go_sem] max2_int min2_int max_two min_two max_three min_three max_four min_four   -- for this text's walks alone
set_option linter.unusedVariables false
set_option linter.unusedSimpArgs false

/-! ### curtilagelaw01_LevelTells: function 8 -/
def curtilagelaw01_LevelTells.f (k : Nat) (a0 : Int) (a1 : Int) : Option (Bool) := (level_Fit.f a0).bind fun t140 => ((curtilageref01_Fit.f a0).bind fun t141 => (if (t140 == t141) = true then ((level_Leq.f a0 a1).bind fun t142 => ((curtilageref01_Leq.f a0 a1).bind fun t143 => (if (t142 == t143) = true then ((level_Join.f k a0 a1).bind fun t144 => ((curtilageref01_Join.f a0 a1).bind fun t145 => (if t144 = t145 then ((level_Meet.f k a0 a1).bind fun t146 => ((curtilageref01_Meet.f a0 a1).bind fun t147 => (if t146 = t147 then ((level_Raise.f a0).bind fun t148 => ((curtilageref01_Raise.f a0).bind fun t149 => (if t148 = t149 then ((level_Lower.f a0).bind fun t150 => ((curtilageref01_Lower.f a0).bind fun t151 => (if t150 = t151 then ((curtilagelaw01_awake.f k).bind fun t152 => (some t152)) else (some false)))) else (some false)))) else (some false)))) else (some false)))) else (some false)))) else (some false)))
theorem curtilagelaw01_LevelTells.mono : ∀ a0 a1 k, LeO (curtilagelaw01_LevelTells.f k a0 a1) (curtilagelaw01_LevelTells.f (k + 1) a0 a1) := by
  intro a0 a1 k
  unfold curtilagelaw01_LevelTells.f
  repeat' first
      | (with_reducible exact curtilagelaw01_awake.mono _)
      | (with_reducible exact level_Join.mono _ _ _)
      | (with_reducible exact level_Meet.mono _ _ _)
      | (with_reducible exact LeO.refl _)
      | (with_reducible exact LeO.none _)
      | (with_reducible refine LeO.ite ?_ ?_)
      | (with_reducible refine LeO.bind ?_ (fun _ => ?_))
      | exact curtilagelaw01_awake.mono _
      | exact level_Join.mono _ _ _
      | exact level_Meet.mono _ _ _
      | exact LeO.none _
      | refine LeO.ite ?_ ?_
      | refine LeO.bind ?_ (fun _ => ?_)
set_option maxHeartbeats 8000000 in
set_option maxRecDepth 100000 in
theorem curtilagelaw01_LevelTells.calls (k : Nat) (a0 : Int) (a1 : Int) (r : Bool) (w : World) (h : curtilagelaw01_LevelTells.f k a0 a1 = some r) :
    Calls Try.prog 8 #[.int .i64 a0, .int .i64 a1] w fun e w' => e = .returned (.bool r) ∧ Below w.heap.size w w' := by
  have HB := Aside0.mk (Below.refl w.heap.size w)
  have H : ((level_Fit.f a0).bind fun t140 => ((curtilageref01_Fit.f a0).bind fun t141 => (if (t140 == t141) = true then ((level_Leq.f a0 a1).bind fun t142 => ((curtilageref01_Leq.f a0 a1).bind fun t143 => (if (t142 == t143) = true then ((level_Join.f k a0 a1).bind fun t144 => ((curtilageref01_Join.f a0 a1).bind fun t145 => (if t144 = t145 then ((level_Meet.f k a0 a1).bind fun t146 => ((curtilageref01_Meet.f a0 a1).bind fun t147 => (if t146 = t147 then ((level_Raise.f a0).bind fun t148 => ((curtilageref01_Raise.f a0).bind fun t149 => (if t148 = t149 then ((level_Lower.f a0).bind fun t150 => ((curtilageref01_Lower.f a0).bind fun t151 => (if t150 = t151 then ((curtilagelaw01_awake.f k).bind fun t152 => (some t152)) else (some false)))) else (some false)))) else (some false)))) else (some false)))) else (some false)))) else (some false)))) = some r := h
  clear h
  replace H := Option.bind_eq_some_iff.mp H
  obtain ⟨t140, A30, H⟩ := H
  replace H : ((curtilageref01_Fit.f a0).bind fun t141 => (if (t140 == t141) = true then ((level_Leq.f a0 a1).bind fun t142 => ((curtilageref01_Leq.f a0 a1).bind fun t143 => (if (t142 == t143) = true then ((level_Join.f k a0 a1).bind fun t144 => ((curtilageref01_Join.f a0 a1).bind fun t145 => (if t144 = t145 then ((level_Meet.f k a0 a1).bind fun t146 => ((curtilageref01_Meet.f a0 a1).bind fun t147 => (if t146 = t147 then ((level_Raise.f a0).bind fun t148 => ((curtilageref01_Raise.f a0).bind fun t149 => (if t148 = t149 then ((level_Lower.f a0).bind fun t150 => ((curtilageref01_Lower.f a0).bind fun t151 => (if t150 = t151 then ((curtilagelaw01_awake.f k).bind fun t152 => (some t152)) else (some false)))) else (some false)))) else (some false)))) else (some false)))) else (some false)))) else (some false))) = some r := H
  have A3 := Aside0.mk A30
  clear A30
  replace H := Option.bind_eq_some_iff.mp H
  obtain ⟨t141, A40, H⟩ := H
  replace H : (if (t140 == t141) = true then ((level_Leq.f a0 a1).bind fun t142 => ((curtilageref01_Leq.f a0 a1).bind fun t143 => (if (t142 == t143) = true then ((level_Join.f k a0 a1).bind fun t144 => ((curtilageref01_Join.f a0 a1).bind fun t145 => (if t144 = t145 then ((level_Meet.f k a0 a1).bind fun t146 => ((curtilageref01_Meet.f a0 a1).bind fun t147 => (if t146 = t147 then ((level_Raise.f a0).bind fun t148 => ((curtilageref01_Raise.f a0).bind fun t149 => (if t148 = t149 then ((level_Lower.f a0).bind fun t150 => ((curtilageref01_Lower.f a0).bind fun t151 => (if t150 = t151 then ((curtilagelaw01_awake.f k).bind fun t152 => (some t152)) else (some false)))) else (some false)))) else (some false)))) else (some false)))) else (some false)))) else (some false)) = some r := H
  have A4 := Aside0.mk A40
  clear A40
  by_cases c5 : (t140 == t141) = true
  · rw [if_pos c5] at H
    have c5b0 : (t140 == t141) = true := c5
    (try (have c5b1 : decide (t140 = t141) = true := by simpa using c5))
    (try (have c5b2 : (t140 == t141) = true := by simpa using c5))
    clear c5
    replace H := Option.bind_eq_some_iff.mp H
    obtain ⟨t142, A60, H⟩ := H
    replace H : ((curtilageref01_Leq.f a0 a1).bind fun t143 => (if (t142 == t143) = true then ((level_Join.f k a0 a1).bind fun t144 => ((curtilageref01_Join.f a0 a1).bind fun t145 => (if t144 = t145 then ((level_Meet.f k a0 a1).bind fun t146 => ((curtilageref01_Meet.f a0 a1).bind fun t147 => (if t146 = t147 then ((level_Raise.f a0).bind fun t148 => ((curtilageref01_Raise.f a0).bind fun t149 => (if t148 = t149 then ((level_Lower.f a0).bind fun t150 => ((curtilageref01_Lower.f a0).bind fun t151 => (if t150 = t151 then ((curtilagelaw01_awake.f k).bind fun t152 => (some t152)) else (some false)))) else (some false)))) else (some false)))) else (some false)))) else (some false))) = some r := H
    have A6 := Aside0.mk A60
    clear A60
    replace H := Option.bind_eq_some_iff.mp H
    obtain ⟨t143, A70, H⟩ := H
    replace H : (if (t142 == t143) = true then ((level_Join.f k a0 a1).bind fun t144 => ((curtilageref01_Join.f a0 a1).bind fun t145 => (if t144 = t145 then ((level_Meet.f k a0 a1).bind fun t146 => ((curtilageref01_Meet.f a0 a1).bind fun t147 => (if t146 = t147 then ((level_Raise.f a0).bind fun t148 => ((curtilageref01_Raise.f a0).bind fun t149 => (if t148 = t149 then ((level_Lower.f a0).bind fun t150 => ((curtilageref01_Lower.f a0).bind fun t151 => (if t150 = t151 then ((curtilagelaw01_awake.f k).bind fun t152 => (some t152)) else (some false)))) else (some false)))) else (some false)))) else (some false)))) else (some false)) = some r := H
    have A7 := Aside0.mk A70
    clear A70
    by_cases c8 : (t142 == t143) = true
    · rw [if_pos c8] at H
      have c8b0 : (t142 == t143) = true := c8
      (try (have c8b1 : decide (t142 = t143) = true := by simpa using c8))
      (try (have c8b2 : (t142 == t143) = true := by simpa using c8))
      clear c8
      replace H := Option.bind_eq_some_iff.mp H
      obtain ⟨t144, A90, H⟩ := H
      replace H : ((curtilageref01_Join.f a0 a1).bind fun t145 => (if t144 = t145 then ((level_Meet.f k a0 a1).bind fun t146 => ((curtilageref01_Meet.f a0 a1).bind fun t147 => (if t146 = t147 then ((level_Raise.f a0).bind fun t148 => ((curtilageref01_Raise.f a0).bind fun t149 => (if t148 = t149 then ((level_Lower.f a0).bind fun t150 => ((curtilageref01_Lower.f a0).bind fun t151 => (if t150 = t151 then ((curtilagelaw01_awake.f k).bind fun t152 => (some t152)) else (some false)))) else (some false)))) else (some false)))) else (some false))) = some r := H
      have A9 := Aside0.mk A90
      clear A90
      replace H := Option.bind_eq_some_iff.mp H
      obtain ⟨t145, A100, H⟩ := H
      replace H : (if t144 = t145 then ((level_Meet.f k a0 a1).bind fun t146 => ((curtilageref01_Meet.f a0 a1).bind fun t147 => (if t146 = t147 then ((level_Raise.f a0).bind fun t148 => ((curtilageref01_Raise.f a0).bind fun t149 => (if t148 = t149 then ((level_Lower.f a0).bind fun t150 => ((curtilageref01_Lower.f a0).bind fun t151 => (if t150 = t151 then ((curtilagelaw01_awake.f k).bind fun t152 => (some t152)) else (some false)))) else (some false)))) else (some false)))) else (some false)) = some r := H
      have A10 := Aside0.mk A100
      clear A100
      by_cases c11 : t144 = t145
      · rw [if_pos c11] at H
        have c11b0 : (t144 == t145) = true := beq_iff_eq.mpr c11
        have c11b1 : (t144 != t145) = false := bne_eq_false_iff_eq.mpr c11
        clear c11
        replace H := Option.bind_eq_some_iff.mp H
        obtain ⟨t146, A120, H⟩ := H
        replace H : ((curtilageref01_Meet.f a0 a1).bind fun t147 => (if t146 = t147 then ((level_Raise.f a0).bind fun t148 => ((curtilageref01_Raise.f a0).bind fun t149 => (if t148 = t149 then ((level_Lower.f a0).bind fun t150 => ((curtilageref01_Lower.f a0).bind fun t151 => (if t150 = t151 then ((curtilagelaw01_awake.f k).bind fun t152 => (some t152)) else (some false)))) else (some false)))) else (some false))) = some r := H
        have A12 := Aside0.mk A120
        clear A120
        replace H := Option.bind_eq_some_iff.mp H
        obtain ⟨t147, A130, H⟩ := H
        replace H : (if t146 = t147 then ((level_Raise.f a0).bind fun t148 => ((curtilageref01_Raise.f a0).bind fun t149 => (if t148 = t149 then ((level_Lower.f a0).bind fun t150 => ((curtilageref01_Lower.f a0).bind fun t151 => (if t150 = t151 then ((curtilagelaw01_awake.f k).bind fun t152 => (some t152)) else (some false)))) else (some false)))) else (some false)) = some r := H
        have A13 := Aside0.mk A130
        clear A130
        by_cases c14 : t146 = t147
        · rw [if_pos c14] at H
          have c14b0 : (t146 == t147) = true := beq_iff_eq.mpr c14
          have c14b1 : (t146 != t147) = false := bne_eq_false_iff_eq.mpr c14
          clear c14
          replace H := Option.bind_eq_some_iff.mp H
          obtain ⟨t148, A150, H⟩ := H
          replace H : ((curtilageref01_Raise.f a0).bind fun t149 => (if t148 = t149 then ((level_Lower.f a0).bind fun t150 => ((curtilageref01_Lower.f a0).bind fun t151 => (if t150 = t151 then ((curtilagelaw01_awake.f k).bind fun t152 => (some t152)) else (some false)))) else (some false))) = some r := H
          have A15 := Aside0.mk A150
          clear A150
          replace H := Option.bind_eq_some_iff.mp H
          obtain ⟨t149, A160, H⟩ := H
          replace H : (if t148 = t149 then ((level_Lower.f a0).bind fun t150 => ((curtilageref01_Lower.f a0).bind fun t151 => (if t150 = t151 then ((curtilagelaw01_awake.f k).bind fun t152 => (some t152)) else (some false)))) else (some false)) = some r := H
          have A16 := Aside0.mk A160
          clear A160
          by_cases c17 : t148 = t149
          · rw [if_pos c17] at H
            have c17b0 : (t148 == t149) = true := beq_iff_eq.mpr c17
            have c17b1 : (t148 != t149) = false := bne_eq_false_iff_eq.mpr c17
            clear c17
            replace H := Option.bind_eq_some_iff.mp H
            obtain ⟨t150, A180, H⟩ := H
            replace H : ((curtilageref01_Lower.f a0).bind fun t151 => (if t150 = t151 then ((curtilagelaw01_awake.f k).bind fun t152 => (some t152)) else (some false))) = some r := H
            have A18 := Aside0.mk A180
            clear A180
            replace H := Option.bind_eq_some_iff.mp H
            obtain ⟨t151, A190, H⟩ := H
            replace H : (if t150 = t151 then ((curtilagelaw01_awake.f k).bind fun t152 => (some t152)) else (some false)) = some r := H
            have A19 := Aside0.mk A190
            clear A190
            by_cases c20 : t150 = t151
            · rw [if_pos c20] at H
              have c20b0 : (t150 == t151) = true := beq_iff_eq.mpr c20
              have c20b1 : (t150 != t151) = false := bne_eq_false_iff_eq.mpr c20
              clear c20
              replace H := Option.bind_eq_some_iff.mp H
              obtain ⟨t152, A210, H⟩ := H
              replace H : (some t152) = some r := H
              have A21 := Aside0.mk A210
              clear A210
              obtain rfl := Option.some.inj H
              go_enter Try.func8, Try.ntmps8
              go_wp2_with (first | ((with_reducible refine gate_callee (f := 20) rfl ?_); refine goesL_ (some 6) rfl rfl Try.func20 (by kernel_rfl) rfl #[.int .i64 a0] rfl (by (try simp only [List.map_toArray, List.map_cons, List.map_nil]); first | done | rfl | (simp only [List.length_drop, List.length_take]; rfl)) ?_; (with_reducible refine (level_Fit.calls a0 t140 _ A3.out).mono ?_); rintro e w' ⟨rfl, ⟨nd, rfl⟩⟩; refine ⟨_, rfl, ?_⟩) | ((with_reducible refine gate_callee (f := 21) rfl ?_); refine goesL_ (some 8) rfl rfl Try.func21 (by kernel_rfl) rfl #[.int .i64 a0] rfl (by (try simp only [List.map_toArray, List.map_cons, List.map_nil]); first | done | rfl | (simp only [List.length_drop, List.length_take]; rfl)) ?_; (with_reducible refine (curtilageref01_Fit.calls a0 t141 _ A4.out).mono ?_); rintro e w' ⟨rfl, ⟨nd, rfl⟩⟩; refine ⟨_, rfl, ?_⟩) | (go_at_call 15; (with_reducible refine (level_Leq.calls a0 a1 t142 _ A6.out).mono ?_); rintro e w' ⟨rfl, ⟨nd, rfl⟩⟩) | (go_at_call 22; (with_reducible refine (curtilageref01_Leq.calls a0 a1 t143 _ A7.out).mono ?_); rintro e w' ⟨rfl, ⟨nd, rfl⟩⟩) | (go_at_call 16; (with_reducible refine (level_Join.calls k a0 a1 t144 _ A9.out).mono ?_); rintro e w22 ⟨rfl, hb⟩; have n0_ := Aside0.mk (below_step (by repeat (first | (with_reducible first | exact HB.out | apply below_alloc | apply pw_below_drewN | apply below_drew1) | exact HB.out)) hb); clear HB; have HB := n0_; clear n0_; (try clear hb); (try clear hb2); (try clear hk); (try clear hi)) | (go_at_call 23; (with_reducible refine (curtilageref01_Join.calls a0 a1 t145 _ A10.out).mono ?_); rintro e w' ⟨rfl, ⟨nd, rfl⟩⟩) | (go_at_call 17; (with_reducible refine (level_Meet.calls k a0 a1 t146 _ A12.out).mono ?_); rintro e w23 ⟨rfl, hb⟩; have n0_ := Aside0.mk (below_step (by repeat (first | (with_reducible first | exact HB.out | apply below_alloc | apply pw_below_drewN | apply below_drew1) | exact HB.out)) hb); clear HB; have HB := n0_; clear n0_; (try clear hb); (try clear hb2); (try clear hk); (try clear hi)) | (go_at_call 24; (with_reducible refine (curtilageref01_Meet.calls a0 a1 t147 _ A13.out).mono ?_); rintro e w' ⟨rfl, ⟨nd, rfl⟩⟩) | (go_at_call 18; (with_reducible refine (level_Raise.calls a0 t148 _ A15.out).mono ?_); rintro e w' ⟨rfl, ⟨nd, rfl⟩⟩) | (go_at_call 25; (with_reducible refine (curtilageref01_Raise.calls a0 t149 _ A16.out).mono ?_); rintro e w' ⟨rfl, ⟨nd, rfl⟩⟩) | (go_at_call 19; (with_reducible refine (level_Lower.calls a0 t150 _ A18.out).mono ?_); rintro e w' ⟨rfl, ⟨nd, rfl⟩⟩) | (go_at_call 26; (with_reducible refine (curtilageref01_Lower.calls a0 t151 _ A19.out).mono ?_); rintro e w' ⟨rfl, ⟨nd, rfl⟩⟩) | (go_at_call 14; (with_reducible refine (curtilagelaw01_awake.calls k  t152 _ A21.out).mono ?_); rintro e w24 ⟨rfl, hb⟩; have n0_ := Aside0.mk (below_step (by repeat (first | (with_reducible first | exact HB.out | apply below_alloc | apply pw_below_drewN | apply below_drew1) | exact HB.out)) hb); clear HB; have HB := n0_; clear n0_; (try clear hb); (try clear hb2); (try clear hk); (try clear hi)))
              go_ret
              exact ⟨by first | rfl | (simp [errW_none, errW_some] <;> rfl) | (simp [*, errW_none, errW_some] <;> rfl), by repeat (first | (with_reducible first | exact HB.out | apply below_alloc | apply pw_below_drewN | apply below_drew1) | exact HB.out)⟩
            · rw [if_neg c20] at H
              have c20b0 : (t150 == t151) = false := beq_eq_false_iff_ne.mpr c20
              have c20b1 : (t150 != t151) = true := bne_iff_ne.mpr c20
              obtain rfl := Option.some.inj H
              go_enter Try.func8, Try.ntmps8
              go_wp2_with (first | ((with_reducible refine gate_callee (f := 20) rfl ?_); refine goesL_ (some 6) rfl rfl Try.func20 (by kernel_rfl) rfl #[.int .i64 a0] rfl (by (try simp only [List.map_toArray, List.map_cons, List.map_nil]); first | done | rfl | (simp only [List.length_drop, List.length_take]; rfl)) ?_; (with_reducible refine (level_Fit.calls a0 t140 _ A3.out).mono ?_); rintro e w' ⟨rfl, ⟨nd, rfl⟩⟩; refine ⟨_, rfl, ?_⟩) | ((with_reducible refine gate_callee (f := 21) rfl ?_); refine goesL_ (some 8) rfl rfl Try.func21 (by kernel_rfl) rfl #[.int .i64 a0] rfl (by (try simp only [List.map_toArray, List.map_cons, List.map_nil]); first | done | rfl | (simp only [List.length_drop, List.length_take]; rfl)) ?_; (with_reducible refine (curtilageref01_Fit.calls a0 t141 _ A4.out).mono ?_); rintro e w' ⟨rfl, ⟨nd, rfl⟩⟩; refine ⟨_, rfl, ?_⟩) | (go_at_call 15; (with_reducible refine (level_Leq.calls a0 a1 t142 _ A6.out).mono ?_); rintro e w' ⟨rfl, ⟨nd, rfl⟩⟩) | (go_at_call 22; (with_reducible refine (curtilageref01_Leq.calls a0 a1 t143 _ A7.out).mono ?_); rintro e w' ⟨rfl, ⟨nd, rfl⟩⟩) | (go_at_call 16; (with_reducible refine (level_Join.calls k a0 a1 t144 _ A9.out).mono ?_); rintro e w25 ⟨rfl, hb⟩; have n0_ := Aside0.mk (below_step (by repeat (first | (with_reducible first | exact HB.out | apply below_alloc | apply pw_below_drewN | apply below_drew1) | exact HB.out)) hb); clear HB; have HB := n0_; clear n0_; (try clear hb); (try clear hb2); (try clear hk); (try clear hi)) | (go_at_call 23; (with_reducible refine (curtilageref01_Join.calls a0 a1 t145 _ A10.out).mono ?_); rintro e w' ⟨rfl, ⟨nd, rfl⟩⟩) | (go_at_call 17; (with_reducible refine (level_Meet.calls k a0 a1 t146 _ A12.out).mono ?_); rintro e w26 ⟨rfl, hb⟩; have n0_ := Aside0.mk (below_step (by repeat (first | (with_reducible first | exact HB.out | apply below_alloc | apply pw_below_drewN | apply below_drew1) | exact HB.out)) hb); clear HB; have HB := n0_; clear n0_; (try clear hb); (try clear hb2); (try clear hk); (try clear hi)) | (go_at_call 24; (with_reducible refine (curtilageref01_Meet.calls a0 a1 t147 _ A13.out).mono ?_); rintro e w' ⟨rfl, ⟨nd, rfl⟩⟩) | (go_at_call 18; (with_reducible refine (level_Raise.calls a0 t148 _ A15.out).mono ?_); rintro e w' ⟨rfl, ⟨nd, rfl⟩⟩) | (go_at_call 25; (with_reducible refine (curtilageref01_Raise.calls a0 t149 _ A16.out).mono ?_); rintro e w' ⟨rfl, ⟨nd, rfl⟩⟩) | (go_at_call 19; (with_reducible refine (level_Lower.calls a0 t150 _ A18.out).mono ?_); rintro e w' ⟨rfl, ⟨nd, rfl⟩⟩) | (go_at_call 26; (with_reducible refine (curtilageref01_Lower.calls a0 t151 _ A19.out).mono ?_); rintro e w' ⟨rfl, ⟨nd, rfl⟩⟩))
              go_ret
              exact ⟨by first | rfl | (simp [errW_none, errW_some] <;> rfl) | (simp [*, errW_none, errW_some] <;> rfl), by repeat (first | (with_reducible first | exact HB.out | apply below_alloc | apply pw_below_drewN | apply below_drew1) | exact HB.out)⟩
          · rw [if_neg c17] at H
            have c17b0 : (t148 == t149) = false := beq_eq_false_iff_ne.mpr c17
            have c17b1 : (t148 != t149) = true := bne_iff_ne.mpr c17
            obtain rfl := Option.some.inj H
            go_enter Try.func8, Try.ntmps8
            go_wp2_with (first | ((with_reducible refine gate_callee (f := 20) rfl ?_); refine goesL_ (some 6) rfl rfl Try.func20 (by kernel_rfl) rfl #[.int .i64 a0] rfl (by (try simp only [List.map_toArray, List.map_cons, List.map_nil]); first | done | rfl | (simp only [List.length_drop, List.length_take]; rfl)) ?_; (with_reducible refine (level_Fit.calls a0 t140 _ A3.out).mono ?_); rintro e w' ⟨rfl, ⟨nd, rfl⟩⟩; refine ⟨_, rfl, ?_⟩) | ((with_reducible refine gate_callee (f := 21) rfl ?_); refine goesL_ (some 8) rfl rfl Try.func21 (by kernel_rfl) rfl #[.int .i64 a0] rfl (by (try simp only [List.map_toArray, List.map_cons, List.map_nil]); first | done | rfl | (simp only [List.length_drop, List.length_take]; rfl)) ?_; (with_reducible refine (curtilageref01_Fit.calls a0 t141 _ A4.out).mono ?_); rintro e w' ⟨rfl, ⟨nd, rfl⟩⟩; refine ⟨_, rfl, ?_⟩) | (go_at_call 15; (with_reducible refine (level_Leq.calls a0 a1 t142 _ A6.out).mono ?_); rintro e w' ⟨rfl, ⟨nd, rfl⟩⟩) | (go_at_call 22; (with_reducible refine (curtilageref01_Leq.calls a0 a1 t143 _ A7.out).mono ?_); rintro e w' ⟨rfl, ⟨nd, rfl⟩⟩) | (go_at_call 16; (with_reducible refine (level_Join.calls k a0 a1 t144 _ A9.out).mono ?_); rintro e w27 ⟨rfl, hb⟩; have n0_ := Aside0.mk (below_step (by repeat (first | (with_reducible first | exact HB.out | apply below_alloc | apply pw_below_drewN | apply below_drew1) | exact HB.out)) hb); clear HB; have HB := n0_; clear n0_; (try clear hb); (try clear hb2); (try clear hk); (try clear hi)) | (go_at_call 23; (with_reducible refine (curtilageref01_Join.calls a0 a1 t145 _ A10.out).mono ?_); rintro e w' ⟨rfl, ⟨nd, rfl⟩⟩) | (go_at_call 17; (with_reducible refine (level_Meet.calls k a0 a1 t146 _ A12.out).mono ?_); rintro e w28 ⟨rfl, hb⟩; have n0_ := Aside0.mk (below_step (by repeat (first | (with_reducible first | exact HB.out | apply below_alloc | apply pw_below_drewN | apply below_drew1) | exact HB.out)) hb); clear HB; have HB := n0_; clear n0_; (try clear hb); (try clear hb2); (try clear hk); (try clear hi)) | (go_at_call 24; (with_reducible refine (curtilageref01_Meet.calls a0 a1 t147 _ A13.out).mono ?_); rintro e w' ⟨rfl, ⟨nd, rfl⟩⟩) | (go_at_call 18; (with_reducible refine (level_Raise.calls a0 t148 _ A15.out).mono ?_); rintro e w' ⟨rfl, ⟨nd, rfl⟩⟩) | (go_at_call 25; (with_reducible refine (curtilageref01_Raise.calls a0 t149 _ A16.out).mono ?_); rintro e w' ⟨rfl, ⟨nd, rfl⟩⟩))
            go_ret
            exact ⟨by first | rfl | (simp [errW_none, errW_some] <;> rfl) | (simp [*, errW_none, errW_some] <;> rfl), by repeat (first | (with_reducible first | exact HB.out | apply below_alloc | apply pw_below_drewN | apply below_drew1) | exact HB.out)⟩
        · rw [if_neg c14] at H
          have c14b0 : (t146 == t147) = false := beq_eq_false_iff_ne.mpr c14
          have c14b1 : (t146 != t147) = true := bne_iff_ne.mpr c14
          obtain rfl := Option.some.inj H
          go_enter Try.func8, Try.ntmps8
          go_wp2_with (first | ((with_reducible refine gate_callee (f := 20) rfl ?_); refine goesL_ (some 6) rfl rfl Try.func20 (by kernel_rfl) rfl #[.int .i64 a0] rfl (by (try simp only [List.map_toArray, List.map_cons, List.map_nil]); first | done | rfl | (simp only [List.length_drop, List.length_take]; rfl)) ?_; (with_reducible refine (level_Fit.calls a0 t140 _ A3.out).mono ?_); rintro e w' ⟨rfl, ⟨nd, rfl⟩⟩; refine ⟨_, rfl, ?_⟩) | ((with_reducible refine gate_callee (f := 21) rfl ?_); refine goesL_ (some 8) rfl rfl Try.func21 (by kernel_rfl) rfl #[.int .i64 a0] rfl (by (try simp only [List.map_toArray, List.map_cons, List.map_nil]); first | done | rfl | (simp only [List.length_drop, List.length_take]; rfl)) ?_; (with_reducible refine (curtilageref01_Fit.calls a0 t141 _ A4.out).mono ?_); rintro e w' ⟨rfl, ⟨nd, rfl⟩⟩; refine ⟨_, rfl, ?_⟩) | (go_at_call 15; (with_reducible refine (level_Leq.calls a0 a1 t142 _ A6.out).mono ?_); rintro e w' ⟨rfl, ⟨nd, rfl⟩⟩) | (go_at_call 22; (with_reducible refine (curtilageref01_Leq.calls a0 a1 t143 _ A7.out).mono ?_); rintro e w' ⟨rfl, ⟨nd, rfl⟩⟩) | (go_at_call 16; (with_reducible refine (level_Join.calls k a0 a1 t144 _ A9.out).mono ?_); rintro e w29 ⟨rfl, hb⟩; have n0_ := Aside0.mk (below_step (by repeat (first | (with_reducible first | exact HB.out | apply below_alloc | apply pw_below_drewN | apply below_drew1) | exact HB.out)) hb); clear HB; have HB := n0_; clear n0_; (try clear hb); (try clear hb2); (try clear hk); (try clear hi)) | (go_at_call 23; (with_reducible refine (curtilageref01_Join.calls a0 a1 t145 _ A10.out).mono ?_); rintro e w' ⟨rfl, ⟨nd, rfl⟩⟩) | (go_at_call 17; (with_reducible refine (level_Meet.calls k a0 a1 t146 _ A12.out).mono ?_); rintro e w30 ⟨rfl, hb⟩; have n0_ := Aside0.mk (below_step (by repeat (first | (with_reducible first | exact HB.out | apply below_alloc | apply pw_below_drewN | apply below_drew1) | exact HB.out)) hb); clear HB; have HB := n0_; clear n0_; (try clear hb); (try clear hb2); (try clear hk); (try clear hi)) | (go_at_call 24; (with_reducible refine (curtilageref01_Meet.calls a0 a1 t147 _ A13.out).mono ?_); rintro e w' ⟨rfl, ⟨nd, rfl⟩⟩))
          go_ret
          exact ⟨by first | rfl | (simp [errW_none, errW_some] <;> rfl) | (simp [*, errW_none, errW_some] <;> rfl), by repeat (first | (with_reducible first | exact HB.out | apply below_alloc | apply pw_below_drewN | apply below_drew1) | exact HB.out)⟩
      · rw [if_neg c11] at H
        have c11b0 : (t144 == t145) = false := beq_eq_false_iff_ne.mpr c11
        have c11b1 : (t144 != t145) = true := bne_iff_ne.mpr c11
        obtain rfl := Option.some.inj H
        go_enter Try.func8, Try.ntmps8
        go_wp2_with (first | ((with_reducible refine gate_callee (f := 20) rfl ?_); refine goesL_ (some 6) rfl rfl Try.func20 (by kernel_rfl) rfl #[.int .i64 a0] rfl (by (try simp only [List.map_toArray, List.map_cons, List.map_nil]); first | done | rfl | (simp only [List.length_drop, List.length_take]; rfl)) ?_; (with_reducible refine (level_Fit.calls a0 t140 _ A3.out).mono ?_); rintro e w' ⟨rfl, ⟨nd, rfl⟩⟩; refine ⟨_, rfl, ?_⟩) | ((with_reducible refine gate_callee (f := 21) rfl ?_); refine goesL_ (some 8) rfl rfl Try.func21 (by kernel_rfl) rfl #[.int .i64 a0] rfl (by (try simp only [List.map_toArray, List.map_cons, List.map_nil]); first | done | rfl | (simp only [List.length_drop, List.length_take]; rfl)) ?_; (with_reducible refine (curtilageref01_Fit.calls a0 t141 _ A4.out).mono ?_); rintro e w' ⟨rfl, ⟨nd, rfl⟩⟩; refine ⟨_, rfl, ?_⟩) | (go_at_call 15; (with_reducible refine (level_Leq.calls a0 a1 t142 _ A6.out).mono ?_); rintro e w' ⟨rfl, ⟨nd, rfl⟩⟩) | (go_at_call 22; (with_reducible refine (curtilageref01_Leq.calls a0 a1 t143 _ A7.out).mono ?_); rintro e w' ⟨rfl, ⟨nd, rfl⟩⟩) | (go_at_call 16; (with_reducible refine (level_Join.calls k a0 a1 t144 _ A9.out).mono ?_); rintro e w31 ⟨rfl, hb⟩; have n0_ := Aside0.mk (below_step (by repeat (first | (with_reducible first | exact HB.out | apply below_alloc | apply pw_below_drewN | apply below_drew1) | exact HB.out)) hb); clear HB; have HB := n0_; clear n0_; (try clear hb); (try clear hb2); (try clear hk); (try clear hi)) | (go_at_call 23; (with_reducible refine (curtilageref01_Join.calls a0 a1 t145 _ A10.out).mono ?_); rintro e w' ⟨rfl, ⟨nd, rfl⟩⟩))
        go_ret
        exact ⟨by first | rfl | (simp [errW_none, errW_some] <;> rfl) | (simp [*, errW_none, errW_some] <;> rfl), by repeat (first | (with_reducible first | exact HB.out | apply below_alloc | apply pw_below_drewN | apply below_drew1) | exact HB.out)⟩
    · rw [if_neg c8] at H
      have c8b0 : (t142 == t143) = false := by simpa using c8
      (try (have c8b1 : decide (t142 = t143) = false := by simpa using c8))
      (try (have c8b2 : (t142 == t143) = false := by simpa using c8))
      (try (have c8b3 : ¬ (t142 = t143) := by simpa using c8))
      clear c8
      obtain rfl := Option.some.inj H
      go_enter Try.func8, Try.ntmps8
      go_wp2_with (first | ((with_reducible refine gate_callee (f := 20) rfl ?_); refine goesL_ (some 6) rfl rfl Try.func20 (by kernel_rfl) rfl #[.int .i64 a0] rfl (by (try simp only [List.map_toArray, List.map_cons, List.map_nil]); first | done | rfl | (simp only [List.length_drop, List.length_take]; rfl)) ?_; (with_reducible refine (level_Fit.calls a0 t140 _ A3.out).mono ?_); rintro e w' ⟨rfl, ⟨nd, rfl⟩⟩; refine ⟨_, rfl, ?_⟩) | ((with_reducible refine gate_callee (f := 21) rfl ?_); refine goesL_ (some 8) rfl rfl Try.func21 (by kernel_rfl) rfl #[.int .i64 a0] rfl (by (try simp only [List.map_toArray, List.map_cons, List.map_nil]); first | done | rfl | (simp only [List.length_drop, List.length_take]; rfl)) ?_; (with_reducible refine (curtilageref01_Fit.calls a0 t141 _ A4.out).mono ?_); rintro e w' ⟨rfl, ⟨nd, rfl⟩⟩; refine ⟨_, rfl, ?_⟩) | (go_at_call 15; (with_reducible refine (level_Leq.calls a0 a1 t142 _ A6.out).mono ?_); rintro e w' ⟨rfl, ⟨nd, rfl⟩⟩) | (go_at_call 22; (with_reducible refine (curtilageref01_Leq.calls a0 a1 t143 _ A7.out).mono ?_); rintro e w' ⟨rfl, ⟨nd, rfl⟩⟩))
      go_ret
      exact ⟨by first | rfl | (simp [errW_none, errW_some] <;> rfl) | (simp [*, errW_none, errW_some] <;> rfl), by repeat (first | (with_reducible first | exact HB.out | apply below_alloc | apply pw_below_drewN | apply below_drew1) | exact HB.out)⟩
  · rw [if_neg c5] at H
    have c5b0 : (t140 == t141) = false := by simpa using c5
    (try (have c5b1 : decide (t140 = t141) = false := by simpa using c5))
    (try (have c5b2 : (t140 == t141) = false := by simpa using c5))
    (try (have c5b3 : ¬ (t140 = t141) := by simpa using c5))
    clear c5
    obtain rfl := Option.some.inj H
    go_enter Try.func8, Try.ntmps8
    go_wp2_with (first | ((with_reducible refine gate_callee (f := 20) rfl ?_); refine goesL_ (some 6) rfl rfl Try.func20 (by kernel_rfl) rfl #[.int .i64 a0] rfl (by (try simp only [List.map_toArray, List.map_cons, List.map_nil]); first | done | rfl | (simp only [List.length_drop, List.length_take]; rfl)) ?_; (with_reducible refine (level_Fit.calls a0 t140 _ A3.out).mono ?_); rintro e w' ⟨rfl, ⟨nd, rfl⟩⟩; refine ⟨_, rfl, ?_⟩) | ((with_reducible refine gate_callee (f := 21) rfl ?_); refine goesL_ (some 8) rfl rfl Try.func21 (by kernel_rfl) rfl #[.int .i64 a0] rfl (by (try simp only [List.map_toArray, List.map_cons, List.map_nil]); first | done | rfl | (simp only [List.length_drop, List.length_take]; rfl)) ?_; (with_reducible refine (curtilageref01_Fit.calls a0 t141 _ A4.out).mono ?_); rintro e w' ⟨rfl, ⟨nd, rfl⟩⟩; refine ⟨_, rfl, ?_⟩))
    go_ret
    exact ⟨by first | rfl | (simp [errW_none, errW_some] <;> rfl) | (simp [*, errW_none, errW_some] <;> rfl), by repeat (first | (with_reducible first | exact HB.out | apply below_alloc | apply pw_below_drewN | apply below_drew1) | exact HB.out)⟩

/-- THE ONE PURE STATEMENT of curtilagelaw01_LevelTells: yours. -/
def curtilagelaw01_LevelTells.Pure : Prop := ∀ (a0 : Int) (a1 : Int), (Lit.int .i64 a0).wf = true → (Lit.int .i64 a1).wf = true → ∃ k, curtilagelaw01_LevelTells.f k a0 a1 = some true
theorem curtilagelaw01_LevelTells.walk (P : curtilagelaw01_LevelTells.Pure) (a0 : Int) (a1 : Int) (w : World) (w0 : (Lit.int .i64 a0).wf = true) (w1 : (Lit.int .i64 a1).wf = true) :
    Calls Try.prog 8 #[.int .i64 a0, .int .i64 a1] w fun e w' => e = .returned (.bool true) ∧ Below w.heap.size w w' := by
  obtain ⟨k, h⟩ := P a0 a1 w0 w1
  refine (curtilagelaw01_LevelTells.calls k a0 a1 true w h).mono ?_
  rintro e w' ⟨rfl, hd⟩
  exact ⟨rfl, hd⟩

end Go.Proofs.Ytocfelaklhpdlaa.PLevelTells
