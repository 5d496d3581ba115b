/- Walks of Go functions: each proves that the call answers what the Lean function of its name computes, wherever that is told; written by a program of this work out of the translation. -/
import Derived.Test.YtgpdiehdljecnaaXx0
import Derived.Test.YtgpdiehdljecnaaXx2
import Derived.Test.YtgpdiehdljecnaaXx3
import Derived.Test.YtgpdiehdljecnaaXx4
import Derived.Test.YtgpdiehdljecnaaIt
import Derived.Test.YtgpdiehdljecnaaFt
namespace Go.Proofs.Ytgpdiehdljecnaa.X
open Go.RowKit Go.Proofs.YtgpdiehdljecnaaW.PrintWords Go.Proofs.YtgpdiehdljecnaaW.PrintLast Go.Proofs.YtgpdiehdljecnaaW.PrintMore
attribute [local go_sem] max2_int min2_int max_two min_two max_three min_three max_four min_four   -- for this text's walks alone
set_option linter.unusedVariables false
set_option linter.unusedSimpArgs false

/-! ### curtilagelaw11_FramesDo: function 5 -/
mutual
def curtilagelaw11_FramesDo.j0 : Nat → List (S45) → List (S45) → Int → Int → Bool → Option (Bool)
  | 0, _, _, _, _, _ => none
  | k + 1, x0, x1, x2, x3, x38 => if x38 = true then ((curtilagelaw11_awake.f).bind fun t169 => (some t169)) else ((frames_New.f x3).bind fun bt170 => ((curtilageref11_New.f x3).bind fun bt174 => ((frames_Fit.f x0).bind fun t178 => ((curtilageref11_Fit.f k x0).bind fun t179 => (if (t178 != t179) = true then (curtilagelaw11_FramesDo.j1 k x0 x2 x3 true) else ((frames_Same.f k x0 x1).bind fun t180 => ((curtilageref11_Same.f k x0 x1).bind fun t181 => (if (t180 != t181) = true then (curtilagelaw11_FramesDo.j1 k x0 x2 x3 true) else ((frames_Same.f k x0 x0).bind fun t182 => (if t182 = true then ((curtilageref11_Same.f k bt170.1 bt174.1).bind fun t183 => (if t183 = true then (curtilagelaw11_FramesDo.j1 k x0 x2 x3 (bt170.2 != bt174.2)) else (curtilagelaw11_FramesDo.j1 k x0 x2 x3 true))) else (curtilagelaw11_FramesDo.j1 k x0 x2 x3 true)))))))))))
def curtilagelaw11_FramesDo.j1 : Nat → List (S45) → Int → Int → Bool → Option (Bool)
  | 0, _, _, _, _ => none
  | k + 1, x0, x2, x3, x80 => if x80 = true then (some false) else ((curtilageref11_Fit.f k x0).bind fun t184 => (if t184 = true then ((frames_Take.f x0 x2 x3).bind fun bt186 => ((curtilageref11_Take.f k x0 x2 x3).bind fun bt191 => ((frames_Give.f x0 x2 x3).bind fun bt196 => ((curtilageref11_Give.f k x0 x2 x3).bind fun bt200 => ((frames_Drop.f x0 x2).bind fun bt204 => ((curtilageref11_Drop.f k x0 x2).bind fun bt208 => ((frames_Find.f x0 x2 x3).bind fun bt212 => ((curtilageref11_Find.f k x0 x2 x3).bind fun bt214 => ((curtilageref11_Same.f k bt186.1 bt191.1).bind fun t216 => (if t216 = true then (if bt186.2.1 = bt191.2.1 then (if bt186.2.2 = bt191.2.2 then ((curtilageref11_Same.f k bt196.1 bt200.1).bind fun t217 => (if t217 = true then (if bt196.2 = bt200.2 then ((curtilageref11_Same.f k bt204.1 bt208.1).bind fun t218 => (if t218 = true then (if bt204.2 = bt208.2 then (if bt212.1 = bt214.1 then (curtilagelaw11_FramesDo.j2 k x0 x2 bt186.1 bt196.1 bt204.1 (bt212.2 != bt214.2)) else (curtilagelaw11_FramesDo.j2 k x0 x2 bt186.1 bt196.1 bt204.1 true)) else (curtilagelaw11_FramesDo.j2 k x0 x2 bt186.1 bt196.1 bt204.1 true)) else (curtilagelaw11_FramesDo.j2 k x0 x2 bt186.1 bt196.1 bt204.1 true))) else (curtilagelaw11_FramesDo.j2 k x0 x2 bt186.1 bt196.1 bt204.1 true)) else (curtilagelaw11_FramesDo.j2 k x0 x2 bt186.1 bt196.1 bt204.1 true))) else (curtilagelaw11_FramesDo.j2 k x0 x2 bt186.1 bt196.1 bt204.1 true)) else (curtilagelaw11_FramesDo.j2 k x0 x2 bt186.1 bt196.1 bt204.1 true)) else (curtilagelaw11_FramesDo.j2 k x0 x2 bt186.1 bt196.1 bt204.1 true))))))))))) else ((curtilagelaw11_awake.f).bind fun t185 => (some t185))))
def curtilagelaw11_FramesDo.j2 : Nat → List (S45) → Int → List (S45) → List (S45) → List (S45) → Bool → Option (Bool)
  | 0, _, _, _, _, _, _ => none
  | k + 1, x0, x2, x13, x19, x23, x186 => if x186 = true then (some false) else ((frames_Free.f x0).bind fun t219 => ((curtilageref11_Free.f k x0).bind fun t220 => (if t219 = t220 then ((frames_Held.f x0 x2).bind fun t221 => ((curtilageref11_Held.f k x0 x2).bind fun t222 => (if t221 = t222 then ((curtilageref11_Fit.f k x13).bind fun t223 => (if t223 = true then ((curtilageref11_Fit.f k x19).bind fun t224 => (if t224 = true then ((curtilageref11_Fit.f k x23).bind fun t225 => (if t225 = true then ((curtilagelaw11_awake.f).bind fun t226 => (some t226)) else (some false))) else (some false))) else (some false))) else (some false)))) else (some false))))
end
def curtilagelaw11_FramesDo.f (k : Nat) (l0 : List (S45)) (l1 : List (S45)) (a2 : Int) (a3 : Int) : Option (Bool) := if (l0.length : Int) > 60 then (curtilagelaw11_FramesDo.j0 k l0 l1 a2 a3 true) else (curtilagelaw11_FramesDo.j0 k l0 l1 a2 a3 (decide ((l1.length : Int) > 60)))
theorem curtilagelaw11_FramesDo.mono_l : ∀ k, (∀ y0 y1 y2 y3 y4, LeO (curtilagelaw11_FramesDo.j0 k y0 y1 y2 y3 y4) (curtilagelaw11_FramesDo.j0 (k + 1) y0 y1 y2 y3 y4)) ∧ (∀ y0 y1 y2 y3, LeO (curtilagelaw11_FramesDo.j1 k y0 y1 y2 y3) (curtilagelaw11_FramesDo.j1 (k + 1) y0 y1 y2 y3)) ∧ (∀ y0 y1 y2 y3 y4 y5, LeO (curtilagelaw11_FramesDo.j2 k y0 y1 y2 y3 y4 y5) (curtilagelaw11_FramesDo.j2 (k + 1) y0 y1 y2 y3 y4 y5))
  | 0 => ⟨fun _ _ _ _ _ r h => by simp [curtilagelaw11_FramesDo.j0] at h, fun _ _ _ _ r h => by simp [curtilagelaw11_FramesDo.j1] at h, fun _ _ _ _ _ _ r h => by simp [curtilagelaw11_FramesDo.j2] at h⟩
  | k + 1 => by
    obtain ⟨ih0, ih1, ih2⟩ := curtilagelaw11_FramesDo.mono_l k
    refine ⟨?_, ?_, ?_⟩
    · intro y0 y1 y2 y3 y4
      unfold curtilagelaw11_FramesDo.j0
      repeat' first
      | (with_reducible exact ih0 _ _ _ _ _)
      | (with_reducible exact ih1 _ _ _ _)
      | (with_reducible exact ih2 _ _ _ _ _ _)
      | (with_reducible exact curtilageref11_Drop.mono _ _ _)
      | (with_reducible exact curtilageref11_Find.mono _ _ _ _)
      | (with_reducible exact curtilageref11_Fit.mono _ _)
      | (with_reducible exact curtilageref11_Free.mono _ _)
      | (with_reducible exact curtilageref11_Give.mono _ _ _ _)
      | (with_reducible exact curtilageref11_Held.mono _ _ _)
      | (with_reducible exact curtilageref11_Same.mono _ _ _)
      | (with_reducible exact curtilageref11_Take.mono _ _ _ _)
      | (with_reducible exact frames_Same.mono _ _ _)
      | (with_reducible exact LeO.refl _)
      | (with_reducible exact LeO.none _)
      | (with_reducible refine LeO.ite ?_ ?_)
      | (with_reducible refine LeO.bind ?_ (fun _ => ?_))
      | exact ih0 _ _ _ _ _
      | exact ih1 _ _ _ _
      | exact ih2 _ _ _ _ _ _
      | exact curtilageref11_Drop.mono _ _ _
      | exact curtilageref11_Find.mono _ _ _ _
      | exact curtilageref11_Fit.mono _ _
      | exact curtilageref11_Free.mono _ _
      | exact curtilageref11_Give.mono _ _ _ _
      | exact curtilageref11_Held.mono _ _ _
      | exact curtilageref11_Same.mono _ _ _
      | exact curtilageref11_Take.mono _ _ _ _
      | exact frames_Same.mono _ _ _
      | exact LeO.none _
      | refine LeO.ite ?_ ?_
      | refine LeO.bind ?_ (fun _ => ?_)
    · intro y0 y1 y2 y3
      unfold curtilagelaw11_FramesDo.j1
      repeat' first
      | (with_reducible exact ih0 _ _ _ _ _)
      | (with_reducible exact ih1 _ _ _ _)
      | (with_reducible exact ih2 _ _ _ _ _ _)
      | (with_reducible exact curtilageref11_Drop.mono _ _ _)
      | (with_reducible exact curtilageref11_Find.mono _ _ _ _)
      | (with_reducible exact curtilageref11_Fit.mono _ _)
      | (with_reducible exact curtilageref11_Free.mono _ _)
      | (with_reducible exact curtilageref11_Give.mono _ _ _ _)
      | (with_reducible exact curtilageref11_Held.mono _ _ _)
      | (with_reducible exact curtilageref11_Same.mono _ _ _)
      | (with_reducible exact curtilageref11_Take.mono _ _ _ _)
      | (with_reducible exact frames_Same.mono _ _ _)
      | (with_reducible exact LeO.refl _)
      | (with_reducible exact LeO.none _)
      | (with_reducible refine LeO.ite ?_ ?_)
      | (with_reducible refine LeO.bind ?_ (fun _ => ?_))
      | exact ih0 _ _ _ _ _
      | exact ih1 _ _ _ _
      | exact ih2 _ _ _ _ _ _
      | exact curtilageref11_Drop.mono _ _ _
      | exact curtilageref11_Find.mono _ _ _ _
      | exact curtilageref11_Fit.mono _ _
      | exact curtilageref11_Free.mono _ _
      | exact curtilageref11_Give.mono _ _ _ _
      | exact curtilageref11_Held.mono _ _ _
      | exact curtilageref11_Same.mono _ _ _
      | exact curtilageref11_Take.mono _ _ _ _
      | exact frames_Same.mono _ _ _
      | exact LeO.none _
      | refine LeO.ite ?_ ?_
      | refine LeO.bind ?_ (fun _ => ?_)
    · intro y0 y1 y2 y3 y4 y5
      unfold curtilagelaw11_FramesDo.j2
      repeat' first
      | (with_reducible exact ih0 _ _ _ _ _)
      | (with_reducible exact ih1 _ _ _ _)
      | (with_reducible exact ih2 _ _ _ _ _ _)
      | (with_reducible exact curtilageref11_Drop.mono _ _ _)
      | (with_reducible exact curtilageref11_Find.mono _ _ _ _)
      | (with_reducible exact curtilageref11_Fit.mono _ _)
      | (with_reducible exact curtilageref11_Free.mono _ _)
      | (with_reducible exact curtilageref11_Give.mono _ _ _ _)
      | (with_reducible exact curtilageref11_Held.mono _ _ _)
      | (with_reducible exact curtilageref11_Same.mono _ _ _)
      | (with_reducible exact curtilageref11_Take.mono _ _ _ _)
      | (with_reducible exact frames_Same.mono _ _ _)
      | (with_reducible exact LeO.refl _)
      | (with_reducible exact LeO.none _)
      | (with_reducible refine LeO.ite ?_ ?_)
      | (with_reducible refine LeO.bind ?_ (fun _ => ?_))
      | exact ih0 _ _ _ _ _
      | exact ih1 _ _ _ _
      | exact ih2 _ _ _ _ _ _
      | exact curtilageref11_Drop.mono _ _ _
      | exact curtilageref11_Find.mono _ _ _ _
      | exact curtilageref11_Fit.mono _ _
      | exact curtilageref11_Free.mono _ _
      | exact curtilageref11_Give.mono _ _ _ _
      | exact curtilageref11_Held.mono _ _ _
      | exact curtilageref11_Same.mono _ _ _
      | exact curtilageref11_Take.mono _ _ _ _
      | exact frames_Same.mono _ _ _
      | exact LeO.none _
      | refine LeO.ite ?_ ?_
      | refine LeO.bind ?_ (fun _ => ?_)
theorem curtilagelaw11_FramesDo.mono : ∀ a0 a1 a2 a3 k, LeO (curtilagelaw11_FramesDo.f k a0 a1 a2 a3) (curtilagelaw11_FramesDo.f (k + 1) a0 a1 a2 a3) := by
  intro a0 a1 a2 a3 k
  obtain ⟨ih0, ih1, ih2⟩ := curtilagelaw11_FramesDo.mono_l k
  unfold curtilagelaw11_FramesDo.f
  repeat' first
      | (with_reducible exact ih0 _ _ _ _ _)
      | (with_reducible exact ih1 _ _ _ _)
      | (with_reducible exact ih2 _ _ _ _ _ _)
      | (with_reducible exact curtilageref11_Drop.mono _ _ _)
      | (with_reducible exact curtilageref11_Find.mono _ _ _ _)
      | (with_reducible exact curtilageref11_Fit.mono _ _)
      | (with_reducible exact curtilageref11_Free.mono _ _)
      | (with_reducible exact curtilageref11_Give.mono _ _ _ _)
      | (with_reducible exact curtilageref11_Held.mono _ _ _)
      | (with_reducible exact curtilageref11_Same.mono _ _ _)
      | (with_reducible exact curtilageref11_Take.mono _ _ _ _)
      | (with_reducible exact frames_Same.mono _ _ _)
      | (with_reducible exact LeO.refl _)
      | (with_reducible exact LeO.none _)
      | (with_reducible refine LeO.ite ?_ ?_)
      | (with_reducible refine LeO.bind ?_ (fun _ => ?_))
      | exact ih0 _ _ _ _ _
      | exact ih1 _ _ _ _
      | exact ih2 _ _ _ _ _ _
      | exact curtilageref11_Drop.mono _ _ _
      | exact curtilageref11_Find.mono _ _ _ _
      | exact curtilageref11_Fit.mono _ _
      | exact curtilageref11_Free.mono _ _
      | exact curtilageref11_Give.mono _ _ _ _
      | exact curtilageref11_Held.mono _ _ _
      | exact curtilageref11_Same.mono _ _ _
      | exact curtilageref11_Take.mono _ _ _ _
      | exact frames_Same.mono _ _ _
      | exact LeO.none _
      | refine LeO.ite ?_ ?_
      | refine LeO.bind ?_ (fun _ => ?_)
theorem curtilagelaw11_FramesDo.j1_dead : ∀ k y0 y1 y2, ¬ (curtilagelaw11_FramesDo.j1 k y0 y1 y2 true = some true) := by
  intro k
  cases k <;> simp [curtilagelaw11_FramesDo.j1]
theorem curtilagelaw11_FramesDo.j2_dead : ∀ k y0 y1 y2 y3 y4, ¬ (curtilagelaw11_FramesDo.j2 k y0 y1 y2 y3 y4 true = some true) := by
  intro k
  cases k <;> simp [curtilagelaw11_FramesDo.j2]
set_option maxHeartbeats 8000000 in
set_option maxRecDepth 100000 in
theorem curtilagelaw11_FramesDo.calls (k : Nat) (A0 : Option Addr) (c0 : Nat) (l0 : List (S45)) (A1 : Option Addr) (c1 : Nat) (l1 : List (S45)) (a2 : Int) (a3 : Int) (w : World) (hr0 : Kd.C k45 w A0 l0.length l0) (hc0 : l0.length ≤ c0) (hr1 : Kd.C k45 w A1 l1.length l1) (hc1 : l1.length ≤ c1) (h : curtilagelaw11_FramesDo.f k l0 l1 a2 a3 = some true) :
    Calls Try.prog 5 #[.slice A0 l0.length c0, .slice A1 l1.length c1, .int .u64 a2, .int .i64 a3] w fun e w' => e = .returned (.bool true) ∧ Below w.heap.size w w' := by
  have HR0 := Aside0.mk hr0
  have HC0 := Aside0.mk hc0
  clear hr0 hc0
  have HR1 := Aside0.mk hr1
  have HC1 := Aside0.mk hc1
  clear hr1 hc1
  have HB := Aside0.mk (Below.refl w.heap.size w)
  have H : (if (l0.length : Int) > 60 then (curtilagelaw11_FramesDo.j0 k l0 l1 a2 a3 true) else (curtilagelaw11_FramesDo.j0 k l0 l1 a2 a3 (decide ((l1.length : Int) > 60)))) = some true := h
  clear h
  have HC5 := Aside0.mk H
  clear H
  go_enter Try.func5, Try.ntmps5
  go_upto_region 1 with (fail)
  go_cut [38] (fun v38 wc => ∃ (kq : Nat) (x38_4 : Bool), v38 = .bool x38_4 ∧ Aside0 (curtilagelaw11_FramesDo.j0 kq l0 l1 a2 a3 x38_4 = some true) ∧ Aside0 (kq ≤ k) ∧ Aside0 (Below w.heap.size w wc))
  case first =>
    have H := HC5.out
    clear HC5
    by_cases c6 : (l0.length : Int) > 60
    · rw [if_pos c6] at H
      have c6b0 : decide (60 < (l0.length : Int)) = true := decide_eq_true c6
      have c6b1 : decide (60 < l0.length) = true := decide_eq_true (by omega)
      clear c6
      (first | rw [c6b0] | (simp only [i64_w, i32_w]; rw [c6b0]) | skip)
      first
      | exact absurd H (by first | decide | exact curtilagelaw11_FramesDo.j1_dead _ _ _ _ | exact curtilagelaw11_FramesDo.j2_dead _ _ _ _ _ _)
      | skip
      all_goals (
        have H' := Aside0.mk H
        clear H
        go_wp2
        go_meet
        case rel => exact ⟨_, (true), (by first | rfl | (simp; done) | (simp [*]; done)), H', ⟨by first | omega | exact Nat.le_refl _⟩, ⟨by repeat (first | (with_reducible first | exact HB.out | apply below_alloc | apply pw_below_drewN | apply below_drew1) | exact HB.out)⟩⟩)
    · rw [if_neg c6] at H
      have c6b0 : decide (60 < (l0.length : Int)) = false := decide_eq_false c6
      have c6b1 : decide (60 < l0.length) = false := decide_eq_false (by omega)
      clear c6
      (first | rw [c6b0] | (simp only [i64_w, i32_w]; rw [c6b0]) | skip)
      first
      | exact absurd H (by first | decide | exact curtilagelaw11_FramesDo.j1_dead _ _ _ _ | exact curtilagelaw11_FramesDo.j2_dead _ _ _ _ _ _)
      | skip
      all_goals (
        have H' := Aside0.mk H
        clear H
        go_wp2
        go_meet
        case rel => exact ⟨_, (decide ((l1.length : Int) > 60)), (by first | rfl | (simp; done) | (simp [*]; done)), H', ⟨by first | omega | exact Nat.le_refl _⟩, ⟨by repeat (first | (with_reducible first | exact HB.out | apply below_alloc | apply pw_below_drewN | apply below_drew1) | exact HB.out)⟩⟩)
  case rest =>
    clear HC5
    try clear c1
    try clear p2
    try clear c5
    try clear c6
    try clear c6b0
    try clear c6b1
    obtain ⟨kq, x38_4, rfl, HA, HJ4, HB⟩ := hcut
    cases kq with
    | zero => exact absurd HA.out (by simp [curtilagelaw11_FramesDo.j0])
    | succ kj4 =>
      have H := HA.out
      clear HA
      simp only [curtilagelaw11_FramesDo.j0] at H
      by_cases c7 : x38_4 = true
      · subst c7
        have H1 : ((curtilagelaw11_awake.f).bind fun t169 => (some t169)) = some true := by rw [if_pos rfl] at H; exact H
        clear H
        have H := H1
        clear H1
        replace H := Option.bind_eq_some_iff.mp H
        obtain ⟨t169, A80, H⟩ := H
        replace H : (some t169) = some true := H
        have A8 := Aside0.mk A80
        clear A80
        first
        | exact absurd H (by first | decide | exact curtilagelaw11_FramesDo.j1_dead _ _ _ _ | exact curtilagelaw11_FramesDo.j2_dead _ _ _ _ _ _)
        | skip
        all_goals (
          obtain rfl := Option.some.inj H
          go_wp2_with (first | ((with_reducible refine gate_callee (f := 6) rfl ?_); refine goesL_ (some 39) rfl rfl Try.func6 (by kernel_rfl) rfl #[] rfl (by (try simp only [List.map_toArray, List.map_cons, List.map_nil]); first | done | rfl | (simp only [List.length_drop, List.length_take]; rfl)) ?_; (with_reducible refine (curtilagelaw11_awake.calls  true _ A8.out).mono ?_); rintro e w9 ⟨rfl, hb⟩; refine ⟨_, rfl, ?_⟩; have n0_ := Aside0.mk (below_step (by repeat (first | (with_reducible first | exact HB.out | apply below_alloc | apply pw_below_drewN | apply below_drew1) | exact HB.out)) hb); clear HB; have HB := n0_; clear n0_; (try clear hb); (try clear hb2); (try clear hk); (try clear hi)))
          go_ret
          exact ⟨by first | rfl | (simp [errW_none, errW_some] <;> rfl) | (simp [*, errW_none, errW_some] <;> rfl), by repeat (first | (with_reducible first | exact HB.out | apply below_alloc | apply pw_below_drewN | apply below_drew1) | exact HB.out)⟩)
      · replace c7 := Bool.eq_false_iff.mpr c7
        subst c7
        have H1 : ((frames_New.f a3).bind fun bt170 => ((curtilageref11_New.f a3).bind fun bt174 => ((frames_Fit.f l0).bind fun t178 => ((curtilageref11_Fit.f kj4 l0).bind fun t179 => (if (t178 != t179) = true then (curtilagelaw11_FramesDo.j1 kj4 l0 a2 a3 true) else ((frames_Same.f kj4 l0 l1).bind fun t180 => ((curtilageref11_Same.f kj4 l0 l1).bind fun t181 => (if (t180 != t181) = true then (curtilagelaw11_FramesDo.j1 kj4 l0 a2 a3 true) else ((frames_Same.f kj4 l0 l0).bind fun t182 => (if t182 = true then ((curtilageref11_Same.f kj4 bt170.1 bt174.1).bind fun t183 => (if t183 = true then (curtilagelaw11_FramesDo.j1 kj4 l0 a2 a3 (bt170.2 != bt174.2)) else (curtilagelaw11_FramesDo.j1 kj4 l0 a2 a3 true))) else (curtilagelaw11_FramesDo.j1 kj4 l0 a2 a3 true))))))))))) = some true := by rw [if_neg (show ¬ (false = true) by decide)] at H; exact H
        clear H
        have H := H1
        clear H1
        replace H := Option.bind_eq_some_iff.mp H
        obtain ⟨⟨t170, t171⟩, A100, H⟩ := H
        replace H : ((curtilageref11_New.f a3).bind fun bt174 => ((frames_Fit.f l0).bind fun t178 => ((curtilageref11_Fit.f kj4 l0).bind fun t179 => (if (t178 != t179) = true then (curtilagelaw11_FramesDo.j1 kj4 l0 a2 a3 true) else ((frames_Same.f kj4 l0 l1).bind fun t180 => ((curtilageref11_Same.f kj4 l0 l1).bind fun t181 => (if (t180 != t181) = true then (curtilagelaw11_FramesDo.j1 kj4 l0 a2 a3 true) else ((frames_Same.f kj4 l0 l0).bind fun t182 => (if t182 = true then ((curtilageref11_Same.f kj4 t170 bt174.1).bind fun t183 => (if t183 = true then (curtilagelaw11_FramesDo.j1 kj4 l0 a2 a3 (t171 != bt174.2)) else (curtilagelaw11_FramesDo.j1 kj4 l0 a2 a3 true))) else (curtilagelaw11_FramesDo.j1 kj4 l0 a2 a3 true)))))))))) = some true := H
        have A10 := Aside0.mk A100
        clear A100
        replace H := Option.bind_eq_some_iff.mp H
        obtain ⟨⟨t174, t175⟩, A110, H⟩ := H
        replace H : ((frames_Fit.f l0).bind fun t178 => ((curtilageref11_Fit.f kj4 l0).bind fun t179 => (if (t178 != t179) = true then (curtilagelaw11_FramesDo.j1 kj4 l0 a2 a3 true) else ((frames_Same.f kj4 l0 l1).bind fun t180 => ((curtilageref11_Same.f kj4 l0 l1).bind fun t181 => (if (t180 != t181) = true then (curtilagelaw11_FramesDo.j1 kj4 l0 a2 a3 true) else ((frames_Same.f kj4 l0 l0).bind fun t182 => (if t182 = true then ((curtilageref11_Same.f kj4 t170 t174).bind fun t183 => (if t183 = true then (curtilagelaw11_FramesDo.j1 kj4 l0 a2 a3 (t171 != t175)) else (curtilagelaw11_FramesDo.j1 kj4 l0 a2 a3 true))) else (curtilagelaw11_FramesDo.j1 kj4 l0 a2 a3 true))))))))) = some true := H
        have A11 := Aside0.mk A110
        clear A110
        have HC12 := Aside0.mk H
        clear H
        go_upto_region 5 with (first | ((with_reducible refine gate_callee (f := 7) rfl ?_); refine goesL_ (some 42) rfl rfl Try.func7 (by kernel_rfl) rfl #[.int .i64 a3] rfl (by (try simp only [List.map_toArray, List.map_cons, List.map_nil]); first | done | rfl | (simp only [List.length_drop, List.length_take]; rfl)) ?_; (with_reducible refine (frames_New.calls a3 t170 t171 _ A10.out).mono ?_); rintro e w13 ⟨v172, rfl, ho0, hb⟩; refine ⟨_, rfl, ?_⟩; have n0_ := Aside0.mk (Kd.R_lower ho0 (below_size (by repeat (first | (with_reducible first | exact HB.out | apply below_alloc | apply pw_below_drewN | apply below_drew1) | exact HB.out)))); have n1_ := Aside0.mk (below_step (by repeat (first | (with_reducible first | exact HB.out | apply below_alloc | apply pw_below_drewN | apply below_drew1) | exact HB.out)) hb); clear HB; have HO173 := n0_; have HB := n1_; clear n0_ n1_; (try clear hb); (try clear hb2); (try clear hk); (try clear hi); (try clear ho0)) | ((with_reducible refine gate_callee (f := 15) rfl ?_); refine goesL_ (some 47) rfl rfl Try.func15 (by kernel_rfl) rfl #[.int .i64 a3] rfl (by (try simp only [List.map_toArray, List.map_cons, List.map_nil]); first | done | rfl | (simp only [List.length_drop, List.length_take]; rfl)) ?_; (with_reducible refine (curtilageref11_New.calls a3 t174 t175 _ A11.out).mono ?_); rintro e w14 ⟨v176, rfl, ho0, hb⟩; refine ⟨_, rfl, ?_⟩; have n0_ := Aside0.mk (Kd.R_elder' (by (with_reducible repeat (first | apply Kd.R_alloc | apply Kd.R_drewN | apply Kd.R_drew)); exact HO173.out) (Kd.R_base ho0) hb); have n1_ := Aside0.mk (Kd.R_lower (Kd.R_new' ho0 (Kd.R_lt (by (with_reducible repeat (first | apply Kd.R_alloc | apply Kd.R_drewN | apply Kd.R_drew)); exact HO173.out))) (below_size (by repeat (first | (with_reducible first | exact HB.out | apply below_alloc | apply pw_below_drewN | apply below_drew1) | exact HB.out)))); have n2_ := Aside0.mk (below_step (by repeat (first | (with_reducible first | exact HB.out | apply below_alloc | apply pw_below_drewN | apply below_drew1) | exact HB.out)) hb); clear HO173; clear HB; have HO173 := n0_; have HO177 := n1_; have HB := n2_; clear n0_ n1_ n2_; (try clear hb); (try clear hb2); (try clear hk); (try clear hi); (try clear ho0)))
        (try simp only [Act.put, List.setIfInBounds_toArray, List.set_cons_zero, List.set_cons_succ])
        go_cut [80] (fun v80 wc => ∃ (kq : Nat) (x80_11 : Bool), v80 = .bool x80_11 ∧ Aside0 (curtilagelaw11_FramesDo.j1 kq l0 a2 a3 x80_11 = some true) ∧ Aside0 (kq ≤ kj4) ∧ Aside0 (Below w.heap.size w wc))
        case first =>
          have H := HC12.out
          clear HC12
          replace H := Option.bind_eq_some_iff.mp H
          obtain ⟨t178, A150, H⟩ := H
          replace H : ((curtilageref11_Fit.f kj4 l0).bind fun t179 => (if (t178 != t179) = true then (curtilagelaw11_FramesDo.j1 kj4 l0 a2 a3 true) else ((frames_Same.f kj4 l0 l1).bind fun t180 => ((curtilageref11_Same.f kj4 l0 l1).bind fun t181 => (if (t180 != t181) = true then (curtilagelaw11_FramesDo.j1 kj4 l0 a2 a3 true) else ((frames_Same.f kj4 l0 l0).bind fun t182 => (if t182 = true then ((curtilageref11_Same.f kj4 t170 t174).bind fun t183 => (if t183 = true then (curtilagelaw11_FramesDo.j1 kj4 l0 a2 a3 (t171 != t175)) else (curtilagelaw11_FramesDo.j1 kj4 l0 a2 a3 true))) else (curtilagelaw11_FramesDo.j1 kj4 l0 a2 a3 true)))))))) = some true := H
          have A15 := Aside0.mk A150
          clear A150
          replace H := Option.bind_eq_some_iff.mp H
          obtain ⟨t179, A160, H⟩ := H
          replace H : (if (t178 != t179) = true then (curtilagelaw11_FramesDo.j1 kj4 l0 a2 a3 true) else ((frames_Same.f kj4 l0 l1).bind fun t180 => ((curtilageref11_Same.f kj4 l0 l1).bind fun t181 => (if (t180 != t181) = true then (curtilagelaw11_FramesDo.j1 kj4 l0 a2 a3 true) else ((frames_Same.f kj4 l0 l0).bind fun t182 => (if t182 = true then ((curtilageref11_Same.f kj4 t170 t174).bind fun t183 => (if t183 = true then (curtilagelaw11_FramesDo.j1 kj4 l0 a2 a3 (t171 != t175)) else (curtilagelaw11_FramesDo.j1 kj4 l0 a2 a3 true))) else (curtilagelaw11_FramesDo.j1 kj4 l0 a2 a3 true))))))) = some true := H
          have A16 := Aside0.mk A160
          clear A160
          by_cases c17 : (t178 != t179) = true
          · rw [if_pos c17] at H
            have c17b0 : (t178 != t179) = true := c17
            (try (have c17b1 : decide (t178 = t179) = false := by simpa using c17))
            (try (have c17b2 : (t178 == t179) = false := by simpa using c17))
            (try (have c17b3 : ¬ (t178 = t179) := by simpa using c17))
            clear c17
            (first | rw [c17b0] | (simp only [i64_w, i32_w]; rw [c17b0]) | skip)
            first
            | exact absurd H (by first | decide | exact curtilagelaw11_FramesDo.j1_dead _ _ _ _ | exact curtilagelaw11_FramesDo.j2_dead _ _ _ _ _ _)
            | skip
            all_goals (
              have H' := Aside0.mk H
              clear H
              go_wp2_with (first | ((with_reducible refine gate_callee (f := 16) rfl ?_); refine goesL_ (some 51) rfl rfl Try.func16 (by kernel_rfl) rfl #[.slice A0 l0.length c0] rfl (by (try simp only [List.map_toArray, List.map_cons, List.map_nil]); first | done | rfl | (simp only [List.length_drop, List.length_take]; rfl)) ?_; (with_reducible refine (frames_Fit.calls _ _ l0 t178 _ ?side1 ?side2 A15.out).mono ?_); (case side1 => repeat (first | exact (Kd.C_below HR0.out HB.out) | (with_reducible refine Kd.C_alloc ?_ _) | (with_reducible refine Kd.C_drewN ?_ _) | (with_reducible refine Kd.C_drew ?_))); (case side2 => exact HC0.out); rintro e w18 ⟨rfl, hb⟩; refine ⟨_, rfl, ?_⟩; have n0_ := Aside0.mk (Kd.R_below (by (with_reducible repeat (first | apply Kd.R_alloc | apply Kd.R_drewN | apply Kd.R_drew)); exact HO173.out) hb); have n1_ := Aside0.mk (Kd.R_below (by (with_reducible repeat (first | apply Kd.R_alloc | apply Kd.R_drewN | apply Kd.R_drew)); exact HO177.out) hb); have n2_ := Aside0.mk (below_step (by repeat (first | (with_reducible first | exact HB.out | apply below_alloc | apply pw_below_drewN | apply below_drew1) | exact HB.out)) hb); clear HO173; clear HO177; clear HB; have HO173 := n0_; have HO177 := n1_; have HB := n2_; clear n0_ n1_ n2_; (try clear hb); (try clear hb2); (try clear hk); (try clear hi)) | ((with_reducible refine gate_callee (f := 14) rfl ?_); refine goesL_ (some 53) rfl rfl Try.func14 (by kernel_rfl) rfl #[.slice A0 l0.length c0] rfl (by (try simp only [List.map_toArray, List.map_cons, List.map_nil]); first | done | rfl | (simp only [List.length_drop, List.length_take]; rfl)) ?_; (with_reducible refine (curtilageref11_Fit.calls kj4 _ _ l0 t179 _ ?side1 ?side2 A16.out).mono ?_); (case side1 => repeat (first | exact (Kd.C_below HR0.out HB.out) | (with_reducible refine Kd.C_alloc ?_ _) | (with_reducible refine Kd.C_drewN ?_ _) | (with_reducible refine Kd.C_drew ?_))); (case side2 => exact HC0.out); rintro e w19 ⟨rfl, hb⟩; refine ⟨_, rfl, ?_⟩; have n0_ := Aside0.mk (Kd.R_below (by (with_reducible repeat (first | apply Kd.R_alloc | apply Kd.R_drewN | apply Kd.R_drew)); exact HO173.out) hb); have n1_ := Aside0.mk (Kd.R_below (by (with_reducible repeat (first | apply Kd.R_alloc | apply Kd.R_drewN | apply Kd.R_drew)); exact HO177.out) hb); have n2_ := Aside0.mk (below_step (by repeat (first | (with_reducible first | exact HB.out | apply below_alloc | apply pw_below_drewN | apply below_drew1) | exact HB.out)) hb); clear HO173; clear HO177; clear HB; have HO173 := n0_; have HO177 := n1_; have HB := n2_; clear n0_ n1_ n2_; (try clear hb); (try clear hb2); (try clear hk); (try clear hi)))
              go_meet
              case rel => exact ⟨_, (true), (by first | rfl | (simp; done) | (simp [*]; done)), H', ⟨by have := HJ4.out; first | omega | exact Nat.le_refl _⟩, ⟨by repeat (first | (with_reducible first | exact HB.out | apply below_alloc | apply pw_below_drewN | apply below_drew1) | exact HB.out)⟩⟩)
          · rw [if_neg c17] at H
            have c17b0 : (t178 != t179) = false := by simpa using c17
            (try (have c17b1 : decide (t178 = t179) = true := by simpa using c17))
            (try (have c17b2 : (t178 == t179) = true := by simpa using c17))
            clear c17
            (first | rw [c17b0] | (simp only [i64_w, i32_w]; rw [c17b0]) | skip)
            replace H := Option.bind_eq_some_iff.mp H
            obtain ⟨t180, A200, H⟩ := H
            replace H : ((curtilageref11_Same.f kj4 l0 l1).bind fun t181 => (if (t180 != t181) = true then (curtilagelaw11_FramesDo.j1 kj4 l0 a2 a3 true) else ((frames_Same.f kj4 l0 l0).bind fun t182 => (if t182 = true then ((curtilageref11_Same.f kj4 t170 t174).bind fun t183 => (if t183 = true then (curtilagelaw11_FramesDo.j1 kj4 l0 a2 a3 (t171 != t175)) else (curtilagelaw11_FramesDo.j1 kj4 l0 a2 a3 true))) else (curtilagelaw11_FramesDo.j1 kj4 l0 a2 a3 true))))) = some true := H
            have A20 := Aside0.mk A200
            clear A200
            replace H := Option.bind_eq_some_iff.mp H
            obtain ⟨t181, A210, H⟩ := H
            replace H : (if (t180 != t181) = true then (curtilagelaw11_FramesDo.j1 kj4 l0 a2 a3 true) else ((frames_Same.f kj4 l0 l0).bind fun t182 => (if t182 = true then ((curtilageref11_Same.f kj4 t170 t174).bind fun t183 => (if t183 = true then (curtilagelaw11_FramesDo.j1 kj4 l0 a2 a3 (t171 != t175)) else (curtilagelaw11_FramesDo.j1 kj4 l0 a2 a3 true))) else (curtilagelaw11_FramesDo.j1 kj4 l0 a2 a3 true)))) = some true := H
            have A21 := Aside0.mk A210
            clear A210
            by_cases c22 : (t180 != t181) = true
            · rw [if_pos c22] at H
              have c22b0 : (t180 != t181) = true := c22
              (try (have c22b1 : decide (t180 = t181) = false := by simpa using c22))
              (try (have c22b2 : (t180 == t181) = false := by simpa using c22))
              (try (have c22b3 : ¬ (t180 = t181) := by simpa using c22))
              clear c22
              first
              | exact absurd H (by first | decide | exact curtilagelaw11_FramesDo.j1_dead _ _ _ _ | exact curtilagelaw11_FramesDo.j2_dead _ _ _ _ _ _)
              | skip
              all_goals (
                have H' := Aside0.mk H
                clear H
                go_wp2_with (first | ((with_reducible refine gate_callee (f := 16) rfl ?_); refine goesL_ (some 51) rfl rfl Try.func16 (by kernel_rfl) rfl #[.slice A0 l0.length c0] rfl (by (try simp only [List.map_toArray, List.map_cons, List.map_nil]); first | done | rfl | (simp only [List.length_drop, List.length_take]; rfl)) ?_; (with_reducible refine (frames_Fit.calls _ _ l0 t178 _ ?side1 ?side2 A15.out).mono ?_); (case side1 => repeat (first | exact (Kd.C_below HR0.out HB.out) | (with_reducible refine Kd.C_alloc ?_ _) | (with_reducible refine Kd.C_drewN ?_ _) | (with_reducible refine Kd.C_drew ?_))); (case side2 => exact HC0.out); rintro e w23 ⟨rfl, hb⟩; refine ⟨_, rfl, ?_⟩; have n0_ := Aside0.mk (Kd.R_below (by (with_reducible repeat (first | apply Kd.R_alloc | apply Kd.R_drewN | apply Kd.R_drew)); exact HO173.out) hb); have n1_ := Aside0.mk (Kd.R_below (by (with_reducible repeat (first | apply Kd.R_alloc | apply Kd.R_drewN | apply Kd.R_drew)); exact HO177.out) hb); have n2_ := Aside0.mk (below_step (by repeat (first | (with_reducible first | exact HB.out | apply below_alloc | apply pw_below_drewN | apply below_drew1) | exact HB.out)) hb); clear HO173; clear HO177; clear HB; have HO173 := n0_; have HO177 := n1_; have HB := n2_; clear n0_ n1_ n2_; (try clear hb); (try clear hb2); (try clear hk); (try clear hi)) | ((with_reducible refine gate_callee (f := 14) rfl ?_); refine goesL_ (some 53) rfl rfl Try.func14 (by kernel_rfl) rfl #[.slice A0 l0.length c0] rfl (by (try simp only [List.map_toArray, List.map_cons, List.map_nil]); first | done | rfl | (simp only [List.length_drop, List.length_take]; rfl)) ?_; (with_reducible refine (curtilageref11_Fit.calls kj4 _ _ l0 t179 _ ?side1 ?side2 A16.out).mono ?_); (case side1 => repeat (first | exact (Kd.C_below HR0.out HB.out) | (with_reducible refine Kd.C_alloc ?_ _) | (with_reducible refine Kd.C_drewN ?_ _) | (with_reducible refine Kd.C_drew ?_))); (case side2 => exact HC0.out); rintro e w24 ⟨rfl, hb⟩; refine ⟨_, rfl, ?_⟩; have n0_ := Aside0.mk (Kd.R_below (by (with_reducible repeat (first | apply Kd.R_alloc | apply Kd.R_drewN | apply Kd.R_drew)); exact HO173.out) hb); have n1_ := Aside0.mk (Kd.R_below (by (with_reducible repeat (first | apply Kd.R_alloc | apply Kd.R_drewN | apply Kd.R_drew)); exact HO177.out) hb); have n2_ := Aside0.mk (below_step (by repeat (first | (with_reducible first | exact HB.out | apply below_alloc | apply pw_below_drewN | apply below_drew1) | exact HB.out)) hb); clear HO173; clear HO177; clear HB; have HO173 := n0_; have HO177 := n1_; have HB := n2_; clear n0_ n1_ n2_; (try clear hb); (try clear hb2); (try clear hk); (try clear hi)) | (go_at_call 17; (with_reducible refine (frames_Same.calls kj4 _ _ l0 _ _ l1 t180 _ ?side1 ?side2 ?side3 ?side4 A20.out).mono ?_); (case side1 => repeat (first | exact (Kd.C_below HR0.out HB.out) | (with_reducible refine Kd.C_alloc ?_ _) | (with_reducible refine Kd.C_drewN ?_ _) | (with_reducible refine Kd.C_drew ?_))); (case side2 => exact HC0.out); (case side3 => repeat (first | exact (Kd.C_below HR1.out HB.out) | (with_reducible refine Kd.C_alloc ?_ _) | (with_reducible refine Kd.C_drewN ?_ _) | (with_reducible refine Kd.C_drew ?_))); (case side4 => exact HC1.out); rintro e w' ⟨rfl, ⟨nd, rfl⟩⟩) | (go_at_call 18; (with_reducible refine (curtilageref11_Same.calls kj4 _ _ l0 _ _ l1 t181 _ ?side1 ?side2 ?side3 ?side4 A21.out).mono ?_); (case side1 => repeat (first | exact (Kd.C_below HR0.out (by repeat (first | (with_reducible first | exact HB.out | apply below_alloc | apply pw_below_drewN | apply below_drew1) | exact HB.out))) | (with_reducible refine Kd.C_alloc ?_ _) | (with_reducible refine Kd.C_drewN ?_ _) | (with_reducible refine Kd.C_drew ?_))); (case side2 => exact HC0.out); (case side3 => repeat (first | exact (Kd.C_below HR1.out (by repeat (first | (with_reducible first | exact HB.out | apply below_alloc | apply pw_below_drewN | apply below_drew1) | exact HB.out))) | (with_reducible refine Kd.C_alloc ?_ _) | (with_reducible refine Kd.C_drewN ?_ _) | (with_reducible refine Kd.C_drew ?_))); (case side4 => exact HC1.out); rintro e w' ⟨rfl, ⟨nd, rfl⟩⟩))
                go_meet
                case rel => exact ⟨_, (true), (by first | rfl | (simp; done) | (simp [*]; done)), H', ⟨by have := HJ4.out; first | omega | exact Nat.le_refl _⟩, ⟨by repeat (first | (with_reducible first | exact HB.out | apply below_alloc | apply pw_below_drewN | apply below_drew1) | exact HB.out)⟩⟩)
            · rw [if_neg c22] at H
              have c22b0 : (t180 != t181) = false := by simpa using c22
              (try (have c22b1 : decide (t180 = t181) = true := by simpa using c22))
              (try (have c22b2 : (t180 == t181) = true := by simpa using c22))
              clear c22
              replace H := Option.bind_eq_some_iff.mp H
              obtain ⟨t182, A250, H⟩ := H
              replace H : (if t182 = true then ((curtilageref11_Same.f kj4 t170 t174).bind fun t183 => (if t183 = true then (curtilagelaw11_FramesDo.j1 kj4 l0 a2 a3 (t171 != t175)) else (curtilagelaw11_FramesDo.j1 kj4 l0 a2 a3 true))) else (curtilagelaw11_FramesDo.j1 kj4 l0 a2 a3 true)) = some true := H
              have A25 := Aside0.mk A250
              clear A250
              by_cases c26 : t182 = true
              · subst c26
                have H1 : ((curtilageref11_Same.f kj4 t170 t174).bind fun t183 => (if t183 = true then (curtilagelaw11_FramesDo.j1 kj4 l0 a2 a3 (t171 != t175)) else (curtilagelaw11_FramesDo.j1 kj4 l0 a2 a3 true))) = some true := by rw [if_pos rfl] at H; exact H
                clear H
                have H := H1
                clear H1
                replace H := Option.bind_eq_some_iff.mp H
                obtain ⟨t183, A270, H⟩ := H
                replace H : (if t183 = true then (curtilagelaw11_FramesDo.j1 kj4 l0 a2 a3 (t171 != t175)) else (curtilagelaw11_FramesDo.j1 kj4 l0 a2 a3 true)) = some true := H
                have A27 := Aside0.mk A270
                clear A270
                by_cases c28 : t183 = true
                · subst c28
                  have H1 : (curtilagelaw11_FramesDo.j1 kj4 l0 a2 a3 (t171 != t175)) = some true := by rw [if_pos rfl] at H; exact H
                  clear H
                  have H := H1
                  clear H1
                  first
                  | exact absurd H (by first | decide | exact curtilagelaw11_FramesDo.j1_dead _ _ _ _ | exact curtilagelaw11_FramesDo.j2_dead _ _ _ _ _ _)
                  | skip
                  all_goals (
                    have H' := Aside0.mk H
                    clear H
                    go_wp2_with (first | ((with_reducible refine gate_callee (f := 16) rfl ?_); refine goesL_ (some 51) rfl rfl Try.func16 (by kernel_rfl) rfl #[.slice A0 l0.length c0] rfl (by (try simp only [List.map_toArray, List.map_cons, List.map_nil]); first | done | rfl | (simp only [List.length_drop, List.length_take]; rfl)) ?_; (with_reducible refine (frames_Fit.calls _ _ l0 t178 _ ?side1 ?side2 A15.out).mono ?_); (case side1 => repeat (first | exact (Kd.C_below HR0.out HB.out) | (with_reducible refine Kd.C_alloc ?_ _) | (with_reducible refine Kd.C_drewN ?_ _) | (with_reducible refine Kd.C_drew ?_))); (case side2 => exact HC0.out); rintro e w29 ⟨rfl, hb⟩; refine ⟨_, rfl, ?_⟩; have n0_ := Aside0.mk (Kd.R_below (by (with_reducible repeat (first | apply Kd.R_alloc | apply Kd.R_drewN | apply Kd.R_drew)); exact HO173.out) hb); have n1_ := Aside0.mk (Kd.R_below (by (with_reducible repeat (first | apply Kd.R_alloc | apply Kd.R_drewN | apply Kd.R_drew)); exact HO177.out) hb); have n2_ := Aside0.mk (below_step (by repeat (first | (with_reducible first | exact HB.out | apply below_alloc | apply pw_below_drewN | apply below_drew1) | exact HB.out)) hb); clear HO173; clear HO177; clear HB; have HO173 := n0_; have HO177 := n1_; have HB := n2_; clear n0_ n1_ n2_; (try clear hb); (try clear hb2); (try clear hk); (try clear hi)) | ((with_reducible refine gate_callee (f := 14) rfl ?_); refine goesL_ (some 53) rfl rfl Try.func14 (by kernel_rfl) rfl #[.slice A0 l0.length c0] rfl (by (try simp only [List.map_toArray, List.map_cons, List.map_nil]); first | done | rfl | (simp only [List.length_drop, List.length_take]; rfl)) ?_; (with_reducible refine (curtilageref11_Fit.calls kj4 _ _ l0 t179 _ ?side1 ?side2 A16.out).mono ?_); (case side1 => repeat (first | exact (Kd.C_below HR0.out HB.out) | (with_reducible refine Kd.C_alloc ?_ _) | (with_reducible refine Kd.C_drewN ?_ _) | (with_reducible refine Kd.C_drew ?_))); (case side2 => exact HC0.out); rintro e w30 ⟨rfl, hb⟩; refine ⟨_, rfl, ?_⟩; have n0_ := Aside0.mk (Kd.R_below (by (with_reducible repeat (first | apply Kd.R_alloc | apply Kd.R_drewN | apply Kd.R_drew)); exact HO173.out) hb); have n1_ := Aside0.mk (Kd.R_below (by (with_reducible repeat (first | apply Kd.R_alloc | apply Kd.R_drewN | apply Kd.R_drew)); exact HO177.out) hb); have n2_ := Aside0.mk (below_step (by repeat (first | (with_reducible first | exact HB.out | apply below_alloc | apply pw_below_drewN | apply below_drew1) | exact HB.out)) hb); clear HO173; clear HO177; clear HB; have HO173 := n0_; have HO177 := n1_; have HB := n2_; clear n0_ n1_ n2_; (try clear hb); (try clear hb2); (try clear hk); (try clear hi)) | (go_at_call 17; (with_reducible refine (frames_Same.calls kj4 _ _ l0 _ _ l1 t180 _ ?side1 ?side2 ?side3 ?side4 A20.out).mono ?_); (case side1 => repeat (first | exact (Kd.C_below HR0.out HB.out) | (with_reducible refine Kd.C_alloc ?_ _) | (with_reducible refine Kd.C_drewN ?_ _) | (with_reducible refine Kd.C_drew ?_))); (case side2 => exact HC0.out); (case side3 => repeat (first | exact (Kd.C_below HR1.out HB.out) | (with_reducible refine Kd.C_alloc ?_ _) | (with_reducible refine Kd.C_drewN ?_ _) | (with_reducible refine Kd.C_drew ?_))); (case side4 => exact HC1.out); rintro e w' ⟨rfl, ⟨nd, rfl⟩⟩) | (go_at_call 18; (with_reducible refine (curtilageref11_Same.calls kj4 _ _ l0 _ _ l1 t181 _ ?side1 ?side2 ?side3 ?side4 A21.out).mono ?_); (case side1 => repeat (first | exact (Kd.C_below HR0.out (by repeat (first | (with_reducible first | exact HB.out | apply below_alloc | apply pw_below_drewN | apply below_drew1) | exact HB.out))) | (with_reducible refine Kd.C_alloc ?_ _) | (with_reducible refine Kd.C_drewN ?_ _) | (with_reducible refine Kd.C_drew ?_))); (case side2 => exact HC0.out); (case side3 => repeat (first | exact (Kd.C_below HR1.out (by repeat (first | (with_reducible first | exact HB.out | apply below_alloc | apply pw_below_drewN | apply below_drew1) | exact HB.out))) | (with_reducible refine Kd.C_alloc ?_ _) | (with_reducible refine Kd.C_drewN ?_ _) | (with_reducible refine Kd.C_drew ?_))); (case side4 => exact HC1.out); rintro e w' ⟨rfl, ⟨nd, rfl⟩⟩) | (go_at_call 17; (with_reducible refine (frames_Same.calls kj4 _ _ l0 _ _ l0 true _ ?side1 ?side2 ?side3 ?side4 A25.out).mono ?_); (case side1 => repeat (first | exact (Kd.C_below HR0.out (by repeat (first | (with_reducible first | exact HB.out | apply below_alloc | apply pw_below_drewN | apply below_drew1) | exact HB.out))) | (with_reducible refine Kd.C_alloc ?_ _) | (with_reducible refine Kd.C_drewN ?_ _) | (with_reducible refine Kd.C_drew ?_))); (case side2 => exact HC0.out); (case side3 => repeat (first | exact (Kd.C_below HR0.out (by repeat (first | (with_reducible first | exact HB.out | apply below_alloc | apply pw_below_drewN | apply below_drew1) | exact HB.out))) | (with_reducible refine Kd.C_alloc ?_ _) | (with_reducible refine Kd.C_drewN ?_ _) | (with_reducible refine Kd.C_drew ?_))); (case side4 => exact HC0.out); rintro e w' ⟨rfl, ⟨nd, rfl⟩⟩; obtain ⟨Ao31, co31, eo31⟩ := Kd.R_slice HO173.out; subst eo31; obtain ⟨Ao32, co32, eo32⟩ := Kd.R_slice HO177.out; subst eo32) | (go_at_call 18; (with_reducible refine (curtilageref11_Same.calls kj4 _ _ t170 _ _ t174 true _ ?side1 ?side2 ?side3 ?side4 A27.out).mono ?_); (case side1 => repeat (first | exact (Kd.R_reads' HO173.out).2.2 | (with_reducible refine Kd.C_alloc ?_ _) | (with_reducible refine Kd.C_drewN ?_ _) | (with_reducible refine Kd.C_drew ?_))); (case side2 => exact (Kd.R_reads' HO173.out).2.1); (case side3 => repeat (first | exact (Kd.R_reads' HO177.out).2.2 | (with_reducible refine Kd.C_alloc ?_ _) | (with_reducible refine Kd.C_drewN ?_ _) | (with_reducible refine Kd.C_drew ?_))); (case side4 => exact (Kd.R_reads' HO177.out).2.1); rintro e w' ⟨rfl, ⟨nd, rfl⟩⟩))
                    go_meet
                    case rel => exact ⟨_, ((t171 != t175)), (by first | rfl | (simp; done) | (simp [*]; done)), H', ⟨by have := HJ4.out; first | omega | exact Nat.le_refl _⟩, ⟨by repeat (first | (with_reducible first | exact HB.out | apply below_alloc | apply pw_below_drewN | apply below_drew1) | exact HB.out)⟩⟩)
                · replace c28 := Bool.eq_false_iff.mpr c28
                  subst c28
                  have H1 : (curtilagelaw11_FramesDo.j1 kj4 l0 a2 a3 true) = some true := by rw [if_neg (show ¬ (false = true) by decide)] at H; exact H
                  clear H
                  have H := H1
                  clear H1
                  first
                  | exact absurd H (by first | decide | exact curtilagelaw11_FramesDo.j1_dead _ _ _ _ | exact curtilagelaw11_FramesDo.j2_dead _ _ _ _ _ _)
                  | skip
                  all_goals (
                    have H' := Aside0.mk H
                    clear H
                    go_wp2_with (first | ((with_reducible refine gate_callee (f := 16) rfl ?_); refine goesL_ (some 51) rfl rfl Try.func16 (by kernel_rfl) rfl #[.slice A0 l0.length c0] rfl (by (try simp only [List.map_toArray, List.map_cons, List.map_nil]); first | done | rfl | (simp only [List.length_drop, List.length_take]; rfl)) ?_; (with_reducible refine (frames_Fit.calls _ _ l0 t178 _ ?side1 ?side2 A15.out).mono ?_); (case side1 => repeat (first | exact (Kd.C_below HR0.out HB.out) | (with_reducible refine Kd.C_alloc ?_ _) | (with_reducible refine Kd.C_drewN ?_ _) | (with_reducible refine Kd.C_drew ?_))); (case side2 => exact HC0.out); rintro e w33 ⟨rfl, hb⟩; refine ⟨_, rfl, ?_⟩; have n0_ := Aside0.mk (Kd.R_below (by (with_reducible repeat (first | apply Kd.R_alloc | apply Kd.R_drewN | apply Kd.R_drew)); exact HO173.out) hb); have n1_ := Aside0.mk (Kd.R_below (by (with_reducible repeat (first | apply Kd.R_alloc | apply Kd.R_drewN | apply Kd.R_drew)); exact HO177.out) hb); have n2_ := Aside0.mk (below_step (by repeat (first | (with_reducible first | exact HB.out | apply below_alloc | apply pw_below_drewN | apply below_drew1) | exact HB.out)) hb); clear HO173; clear HO177; clear HB; have HO173 := n0_; have HO177 := n1_; have HB := n2_; clear n0_ n1_ n2_; (try clear hb); (try clear hb2); (try clear hk); (try clear hi)) | ((with_reducible refine gate_callee (f := 14) rfl ?_); refine goesL_ (some 53) rfl rfl Try.func14 (by kernel_rfl) rfl #[.slice A0 l0.length c0] rfl (by (try simp only [List.map_toArray, List.map_cons, List.map_nil]); first | done | rfl | (simp only [List.length_drop, List.length_take]; rfl)) ?_; (with_reducible refine (curtilageref11_Fit.calls kj4 _ _ l0 t179 _ ?side1 ?side2 A16.out).mono ?_); (case side1 => repeat (first | exact (Kd.C_below HR0.out HB.out) | (with_reducible refine Kd.C_alloc ?_ _) | (with_reducible refine Kd.C_drewN ?_ _) | (with_reducible refine Kd.C_drew ?_))); (case side2 => exact HC0.out); rintro e w34 ⟨rfl, hb⟩; refine ⟨_, rfl, ?_⟩; have n0_ := Aside0.mk (Kd.R_below (by (with_reducible repeat (first | apply Kd.R_alloc | apply Kd.R_drewN | apply Kd.R_drew)); exact HO173.out) hb); have n1_ := Aside0.mk (Kd.R_below (by (with_reducible repeat (first | apply Kd.R_alloc | apply Kd.R_drewN | apply Kd.R_drew)); exact HO177.out) hb); have n2_ := Aside0.mk (below_step (by repeat (first | (with_reducible first | exact HB.out | apply below_alloc | apply pw_below_drewN | apply below_drew1) | exact HB.out)) hb); clear HO173; clear HO177; clear HB; have HO173 := n0_; have HO177 := n1_; have HB := n2_; clear n0_ n1_ n2_; (try clear hb); (try clear hb2); (try clear hk); (try clear hi)) | (go_at_call 17; (with_reducible refine (frames_Same.calls kj4 _ _ l0 _ _ l1 t180 _ ?side1 ?side2 ?side3 ?side4 A20.out).mono ?_); (case side1 => repeat (first | exact (Kd.C_below HR0.out HB.out) | (with_reducible refine Kd.C_alloc ?_ _) | (with_reducible refine Kd.C_drewN ?_ _) | (with_reducible refine Kd.C_drew ?_))); (case side2 => exact HC0.out); (case side3 => repeat (first | exact (Kd.C_below HR1.out HB.out) | (with_reducible refine Kd.C_alloc ?_ _) | (with_reducible refine Kd.C_drewN ?_ _) | (with_reducible refine Kd.C_drew ?_))); (case side4 => exact HC1.out); rintro e w' ⟨rfl, ⟨nd, rfl⟩⟩) | (go_at_call 18; (with_reducible refine (curtilageref11_Same.calls kj4 _ _ l0 _ _ l1 t181 _ ?side1 ?side2 ?side3 ?side4 A21.out).mono ?_); (case side1 => repeat (first | exact (Kd.C_below HR0.out (by repeat (first | (with_reducible first | exact HB.out | apply below_alloc | apply pw_below_drewN | apply below_drew1) | exact HB.out))) | (with_reducible refine Kd.C_alloc ?_ _) | (with_reducible refine Kd.C_drewN ?_ _) | (with_reducible refine Kd.C_drew ?_))); (case side2 => exact HC0.out); (case side3 => repeat (first | exact (Kd.C_below HR1.out (by repeat (first | (with_reducible first | exact HB.out | apply below_alloc | apply pw_below_drewN | apply below_drew1) | exact HB.out))) | (with_reducible refine Kd.C_alloc ?_ _) | (with_reducible refine Kd.C_drewN ?_ _) | (with_reducible refine Kd.C_drew ?_))); (case side4 => exact HC1.out); rintro e w' ⟨rfl, ⟨nd, rfl⟩⟩) | (go_at_call 17; (with_reducible refine (frames_Same.calls kj4 _ _ l0 _ _ l0 true _ ?side1 ?side2 ?side3 ?side4 A25.out).mono ?_); (case side1 => repeat (first | exact (Kd.C_below HR0.out (by repeat (first | (with_reducible first | exact HB.out | apply below_alloc | apply pw_below_drewN | apply below_drew1) | exact HB.out))) | (with_reducible refine Kd.C_alloc ?_ _) | (with_reducible refine Kd.C_drewN ?_ _) | (with_reducible refine Kd.C_drew ?_))); (case side2 => exact HC0.out); (case side3 => repeat (first | exact (Kd.C_below HR0.out (by repeat (first | (with_reducible first | exact HB.out | apply below_alloc | apply pw_below_drewN | apply below_drew1) | exact HB.out))) | (with_reducible refine Kd.C_alloc ?_ _) | (with_reducible refine Kd.C_drewN ?_ _) | (with_reducible refine Kd.C_drew ?_))); (case side4 => exact HC0.out); rintro e w' ⟨rfl, ⟨nd, rfl⟩⟩; obtain ⟨Ao35, co35, eo35⟩ := Kd.R_slice HO173.out; subst eo35; obtain ⟨Ao36, co36, eo36⟩ := Kd.R_slice HO177.out; subst eo36) | (go_at_call 18; (with_reducible refine (curtilageref11_Same.calls kj4 _ _ t170 _ _ t174 false _ ?side1 ?side2 ?side3 ?side4 A27.out).mono ?_); (case side1 => repeat (first | exact (Kd.R_reads' HO173.out).2.2 | (with_reducible refine Kd.C_alloc ?_ _) | (with_reducible refine Kd.C_drewN ?_ _) | (with_reducible refine Kd.C_drew ?_))); (case side2 => exact (Kd.R_reads' HO173.out).2.1); (case side3 => repeat (first | exact (Kd.R_reads' HO177.out).2.2 | (with_reducible refine Kd.C_alloc ?_ _) | (with_reducible refine Kd.C_drewN ?_ _) | (with_reducible refine Kd.C_drew ?_))); (case side4 => exact (Kd.R_reads' HO177.out).2.1); rintro e w' ⟨rfl, ⟨nd, rfl⟩⟩))
                    go_meet
                    case rel => exact ⟨_, (true), (by first | rfl | (simp; done) | (simp [*]; done)), H', ⟨by have := HJ4.out; first | omega | exact Nat.le_refl _⟩, ⟨by repeat (first | (with_reducible first | exact HB.out | apply below_alloc | apply pw_below_drewN | apply below_drew1) | exact HB.out)⟩⟩)
              · replace c26 := Bool.eq_false_iff.mpr c26
                subst c26
                have H1 : (curtilagelaw11_FramesDo.j1 kj4 l0 a2 a3 true) = some true := by rw [if_neg (show ¬ (false = true) by decide)] at H; exact H
                clear H
                have H := H1
                clear H1
                first
                | exact absurd H (by first | decide | exact curtilagelaw11_FramesDo.j1_dead _ _ _ _ | exact curtilagelaw11_FramesDo.j2_dead _ _ _ _ _ _)
                | skip
                all_goals (
                  have H' := Aside0.mk H
                  clear H
                  go_wp2_with (first | ((with_reducible refine gate_callee (f := 16) rfl ?_); refine goesL_ (some 51) rfl rfl Try.func16 (by kernel_rfl) rfl #[.slice A0 l0.length c0] rfl (by (try simp only [List.map_toArray, List.map_cons, List.map_nil]); first | done | rfl | (simp only [List.length_drop, List.length_take]; rfl)) ?_; (with_reducible refine (frames_Fit.calls _ _ l0 t178 _ ?side1 ?side2 A15.out).mono ?_); (case side1 => repeat (first | exact (Kd.C_below HR0.out HB.out) | (with_reducible refine Kd.C_alloc ?_ _) | (with_reducible refine Kd.C_drewN ?_ _) | (with_reducible refine Kd.C_drew ?_))); (case side2 => exact HC0.out); rintro e w37 ⟨rfl, hb⟩; refine ⟨_, rfl, ?_⟩; have n0_ := Aside0.mk (Kd.R_below (by (with_reducible repeat (first | apply Kd.R_alloc | apply Kd.R_drewN | apply Kd.R_drew)); exact HO173.out) hb); have n1_ := Aside0.mk (Kd.R_below (by (with_reducible repeat (first | apply Kd.R_alloc | apply Kd.R_drewN | apply Kd.R_drew)); exact HO177.out) hb); have n2_ := Aside0.mk (below_step (by repeat (first | (with_reducible first | exact HB.out | apply below_alloc | apply pw_below_drewN | apply below_drew1) | exact HB.out)) hb); clear HO173; clear HO177; clear HB; have HO173 := n0_; have HO177 := n1_; have HB := n2_; clear n0_ n1_ n2_; (try clear hb); (try clear hb2); (try clear hk); (try clear hi)) | ((with_reducible refine gate_callee (f := 14) rfl ?_); refine goesL_ (some 53) rfl rfl Try.func14 (by kernel_rfl) rfl #[.slice A0 l0.length c0] rfl (by (try simp only [List.map_toArray, List.map_cons, List.map_nil]); first | done | rfl | (simp only [List.length_drop, List.length_take]; rfl)) ?_; (with_reducible refine (curtilageref11_Fit.calls kj4 _ _ l0 t179 _ ?side1 ?side2 A16.out).mono ?_); (case side1 => repeat (first | exact (Kd.C_below HR0.out HB.out) | (with_reducible refine Kd.C_alloc ?_ _) | (with_reducible refine Kd.C_drewN ?_ _) | (with_reducible refine Kd.C_drew ?_))); (case side2 => exact HC0.out); rintro e w38 ⟨rfl, hb⟩; refine ⟨_, rfl, ?_⟩; have n0_ := Aside0.mk (Kd.R_below (by (with_reducible repeat (first | apply Kd.R_alloc | apply Kd.R_drewN | apply Kd.R_drew)); exact HO173.out) hb); have n1_ := Aside0.mk (Kd.R_below (by (with_reducible repeat (first | apply Kd.R_alloc | apply Kd.R_drewN | apply Kd.R_drew)); exact HO177.out) hb); have n2_ := Aside0.mk (below_step (by repeat (first | (with_reducible first | exact HB.out | apply below_alloc | apply pw_below_drewN | apply below_drew1) | exact HB.out)) hb); clear HO173; clear HO177; clear HB; have HO173 := n0_; have HO177 := n1_; have HB := n2_; clear n0_ n1_ n2_; (try clear hb); (try clear hb2); (try clear hk); (try clear hi)) | (go_at_call 17; (with_reducible refine (frames_Same.calls kj4 _ _ l0 _ _ l1 t180 _ ?side1 ?side2 ?side3 ?side4 A20.out).mono ?_); (case side1 => repeat (first | exact (Kd.C_below HR0.out HB.out) | (with_reducible refine Kd.C_alloc ?_ _) | (with_reducible refine Kd.C_drewN ?_ _) | (with_reducible refine Kd.C_drew ?_))); (case side2 => exact HC0.out); (case side3 => repeat (first | exact (Kd.C_below HR1.out HB.out) | (with_reducible refine Kd.C_alloc ?_ _) | (with_reducible refine Kd.C_drewN ?_ _) | (with_reducible refine Kd.C_drew ?_))); (case side4 => exact HC1.out); rintro e w' ⟨rfl, ⟨nd, rfl⟩⟩) | (go_at_call 18; (with_reducible refine (curtilageref11_Same.calls kj4 _ _ l0 _ _ l1 t181 _ ?side1 ?side2 ?side3 ?side4 A21.out).mono ?_); (case side1 => repeat (first | exact (Kd.C_below HR0.out (by repeat (first | (with_reducible first | exact HB.out | apply below_alloc | apply pw_below_drewN | apply below_drew1) | exact HB.out))) | (with_reducible refine Kd.C_alloc ?_ _) | (with_reducible refine Kd.C_drewN ?_ _) | (with_reducible refine Kd.C_drew ?_))); (case side2 => exact HC0.out); (case side3 => repeat (first | exact (Kd.C_below HR1.out (by repeat (first | (with_reducible first | exact HB.out | apply below_alloc | apply pw_below_drewN | apply below_drew1) | exact HB.out))) | (with_reducible refine Kd.C_alloc ?_ _) | (with_reducible refine Kd.C_drewN ?_ _) | (with_reducible refine Kd.C_drew ?_))); (case side4 => exact HC1.out); rintro e w' ⟨rfl, ⟨nd, rfl⟩⟩) | (go_at_call 17; (with_reducible refine (frames_Same.calls kj4 _ _ l0 _ _ l0 false _ ?side1 ?side2 ?side3 ?side4 A25.out).mono ?_); (case side1 => repeat (first | exact (Kd.C_below HR0.out (by repeat (first | (with_reducible first | exact HB.out | apply below_alloc | apply pw_below_drewN | apply below_drew1) | exact HB.out))) | (with_reducible refine Kd.C_alloc ?_ _) | (with_reducible refine Kd.C_drewN ?_ _) | (with_reducible refine Kd.C_drew ?_))); (case side2 => exact HC0.out); (case side3 => repeat (first | exact (Kd.C_below HR0.out (by repeat (first | (with_reducible first | exact HB.out | apply below_alloc | apply pw_below_drewN | apply below_drew1) | exact HB.out))) | (with_reducible refine Kd.C_alloc ?_ _) | (with_reducible refine Kd.C_drewN ?_ _) | (with_reducible refine Kd.C_drew ?_))); (case side4 => exact HC0.out); rintro e w' ⟨rfl, ⟨nd, rfl⟩⟩))
                  go_meet
                  case rel => exact ⟨_, (true), (by first | rfl | (simp; done) | (simp [*]; done)), H', ⟨by have := HJ4.out; first | omega | exact Nat.le_refl _⟩, ⟨by repeat (first | (with_reducible first | exact HB.out | apply below_alloc | apply pw_below_drewN | apply below_drew1) | exact HB.out)⟩⟩)
        case rest =>
          clear HC12
          try clear c1
          try clear c2
          try clear p2
          try clear c5
          try clear c6
          try clear c6b0
          try clear c6b1
          try clear c7
          try clear c14
          try clear c15
          try clear c16
          try clear c17
          try clear c17b0
          try clear c17b1
          try clear c17b2
          try clear c22
          try clear c22b0
          try clear c22b1
          try clear c22b2
          try clear c26
          try clear c28
          try clear p2
          obtain ⟨kq, x80_11, rfl, HA, HJ11, HB⟩ := hcut
          cases kq with
          | zero => exact absurd HA.out (by simp [curtilagelaw11_FramesDo.j1])
          | succ kj11 =>
            have H := HA.out
            clear HA
            simp only [curtilagelaw11_FramesDo.j1] at H
            by_cases c39 : x80_11 = true
            · subst c39
              have H1 : (some false) = some true := by rw [if_pos rfl] at H; exact H
              clear H
              have H := H1
              clear H1
              first
              | exact absurd H (by first | decide | exact curtilagelaw11_FramesDo.j1_dead _ _ _ _ | exact curtilagelaw11_FramesDo.j2_dead _ _ _ _ _ _)
              | skip
              all_goals (
                obtain rfl := Option.some.inj H
                go_wp2
                go_ret
                exact ⟨by first | rfl | (simp [errW_none, errW_some] <;> rfl) | (simp [*, errW_none, errW_some] <;> rfl), by repeat (first | (with_reducible first | exact HB.out | apply below_alloc | apply pw_below_drewN | apply below_drew1) | exact HB.out)⟩)
            · replace c39 := Bool.eq_false_iff.mpr c39
              subst c39
              have H1 : ((curtilageref11_Fit.f kj11 l0).bind fun t184 => (if t184 = true then ((frames_Take.f l0 a2 a3).bind fun bt186 => ((curtilageref11_Take.f kj11 l0 a2 a3).bind fun bt191 => ((frames_Give.f l0 a2 a3).bind fun bt196 => ((curtilageref11_Give.f kj11 l0 a2 a3).bind fun bt200 => ((frames_Drop.f l0 a2).bind fun bt204 => ((curtilageref11_Drop.f kj11 l0 a2).bind fun bt208 => ((frames_Find.f l0 a2 a3).bind fun bt212 => ((curtilageref11_Find.f kj11 l0 a2 a3).bind fun bt214 => ((curtilageref11_Same.f kj11 bt186.1 bt191.1).bind fun t216 => (if t216 = true then (if bt186.2.1 = bt191.2.1 then (if bt186.2.2 = bt191.2.2 then ((curtilageref11_Same.f kj11 bt196.1 bt200.1).bind fun t217 => (if t217 = true then (if bt196.2 = bt200.2 then ((curtilageref11_Same.f kj11 bt204.1 bt208.1).bind fun t218 => (if t218 = true then (if bt204.2 = bt208.2 then (if bt212.1 = bt214.1 then (curtilagelaw11_FramesDo.j2 kj11 l0 a2 bt186.1 bt196.1 bt204.1 (bt212.2 != bt214.2)) else (curtilagelaw11_FramesDo.j2 kj11 l0 a2 bt186.1 bt196.1 bt204.1 true)) else (curtilagelaw11_FramesDo.j2 kj11 l0 a2 bt186.1 bt196.1 bt204.1 true)) else (curtilagelaw11_FramesDo.j2 kj11 l0 a2 bt186.1 bt196.1 bt204.1 true))) else (curtilagelaw11_FramesDo.j2 kj11 l0 a2 bt186.1 bt196.1 bt204.1 true)) else (curtilagelaw11_FramesDo.j2 kj11 l0 a2 bt186.1 bt196.1 bt204.1 true))) else (curtilagelaw11_FramesDo.j2 kj11 l0 a2 bt186.1 bt196.1 bt204.1 true)) else (curtilagelaw11_FramesDo.j2 kj11 l0 a2 bt186.1 bt196.1 bt204.1 true)) else (curtilagelaw11_FramesDo.j2 kj11 l0 a2 bt186.1 bt196.1 bt204.1 true))))))))))) else ((curtilagelaw11_awake.f).bind fun t185 => (some t185)))) = some true := by rw [if_neg (show ¬ (false = true) by decide)] at H; exact H
              clear H
              have H := H1
              clear H1
              replace H := Option.bind_eq_some_iff.mp H
              obtain ⟨t184, A400, H⟩ := H
              replace H : (if t184 = true then ((frames_Take.f l0 a2 a3).bind fun bt186 => ((curtilageref11_Take.f kj11 l0 a2 a3).bind fun bt191 => ((frames_Give.f l0 a2 a3).bind fun bt196 => ((curtilageref11_Give.f kj11 l0 a2 a3).bind fun bt200 => ((frames_Drop.f l0 a2).bind fun bt204 => ((curtilageref11_Drop.f kj11 l0 a2).bind fun bt208 => ((frames_Find.f l0 a2 a3).bind fun bt212 => ((curtilageref11_Find.f kj11 l0 a2 a3).bind fun bt214 => ((curtilageref11_Same.f kj11 bt186.1 bt191.1).bind fun t216 => (if t216 = true then (if bt186.2.1 = bt191.2.1 then (if bt186.2.2 = bt191.2.2 then ((curtilageref11_Same.f kj11 bt196.1 bt200.1).bind fun t217 => (if t217 = true then (if bt196.2 = bt200.2 then ((curtilageref11_Same.f kj11 bt204.1 bt208.1).bind fun t218 => (if t218 = true then (if bt204.2 = bt208.2 then (if bt212.1 = bt214.1 then (curtilagelaw11_FramesDo.j2 kj11 l0 a2 bt186.1 bt196.1 bt204.1 (bt212.2 != bt214.2)) else (curtilagelaw11_FramesDo.j2 kj11 l0 a2 bt186.1 bt196.1 bt204.1 true)) else (curtilagelaw11_FramesDo.j2 kj11 l0 a2 bt186.1 bt196.1 bt204.1 true)) else (curtilagelaw11_FramesDo.j2 kj11 l0 a2 bt186.1 bt196.1 bt204.1 true))) else (curtilagelaw11_FramesDo.j2 kj11 l0 a2 bt186.1 bt196.1 bt204.1 true)) else (curtilagelaw11_FramesDo.j2 kj11 l0 a2 bt186.1 bt196.1 bt204.1 true))) else (curtilagelaw11_FramesDo.j2 kj11 l0 a2 bt186.1 bt196.1 bt204.1 true)) else (curtilagelaw11_FramesDo.j2 kj11 l0 a2 bt186.1 bt196.1 bt204.1 true)) else (curtilagelaw11_FramesDo.j2 kj11 l0 a2 bt186.1 bt196.1 bt204.1 true))))))))))) else ((curtilagelaw11_awake.f).bind fun t185 => (some t185))) = some true := H
              have A40 := Aside0.mk A400
              clear A400
              by_cases c41 : t184 = true
              · subst c41
                have H1 : ((frames_Take.f l0 a2 a3).bind fun bt186 => ((curtilageref11_Take.f kj11 l0 a2 a3).bind fun bt191 => ((frames_Give.f l0 a2 a3).bind fun bt196 => ((curtilageref11_Give.f kj11 l0 a2 a3).bind fun bt200 => ((frames_Drop.f l0 a2).bind fun bt204 => ((curtilageref11_Drop.f kj11 l0 a2).bind fun bt208 => ((frames_Find.f l0 a2 a3).bind fun bt212 => ((curtilageref11_Find.f kj11 l0 a2 a3).bind fun bt214 => ((curtilageref11_Same.f kj11 bt186.1 bt191.1).bind fun t216 => (if t216 = true then (if bt186.2.1 = bt191.2.1 then (if bt186.2.2 = bt191.2.2 then ((curtilageref11_Same.f kj11 bt196.1 bt200.1).bind fun t217 => (if t217 = true then (if bt196.2 = bt200.2 then ((curtilageref11_Same.f kj11 bt204.1 bt208.1).bind fun t218 => (if t218 = true then (if bt204.2 = bt208.2 then (if bt212.1 = bt214.1 then (curtilagelaw11_FramesDo.j2 kj11 l0 a2 bt186.1 bt196.1 bt204.1 (bt212.2 != bt214.2)) else (curtilagelaw11_FramesDo.j2 kj11 l0 a2 bt186.1 bt196.1 bt204.1 true)) else (curtilagelaw11_FramesDo.j2 kj11 l0 a2 bt186.1 bt196.1 bt204.1 true)) else (curtilagelaw11_FramesDo.j2 kj11 l0 a2 bt186.1 bt196.1 bt204.1 true))) else (curtilagelaw11_FramesDo.j2 kj11 l0 a2 bt186.1 bt196.1 bt204.1 true)) else (curtilagelaw11_FramesDo.j2 kj11 l0 a2 bt186.1 bt196.1 bt204.1 true))) else (curtilagelaw11_FramesDo.j2 kj11 l0 a2 bt186.1 bt196.1 bt204.1 true)) else (curtilagelaw11_FramesDo.j2 kj11 l0 a2 bt186.1 bt196.1 bt204.1 true)) else (curtilagelaw11_FramesDo.j2 kj11 l0 a2 bt186.1 bt196.1 bt204.1 true))))))))))) = some true := by rw [if_pos rfl] at H; exact H
                clear H
                have H := H1
                clear H1
                replace H := Option.bind_eq_some_iff.mp H
                obtain ⟨⟨t186, t189, t190⟩, A420, H⟩ := H
                replace H : ((curtilageref11_Take.f kj11 l0 a2 a3).bind fun bt191 => ((frames_Give.f l0 a2 a3).bind fun bt196 => ((curtilageref11_Give.f kj11 l0 a2 a3).bind fun bt200 => ((frames_Drop.f l0 a2).bind fun bt204 => ((curtilageref11_Drop.f kj11 l0 a2).bind fun bt208 => ((frames_Find.f l0 a2 a3).bind fun bt212 => ((curtilageref11_Find.f kj11 l0 a2 a3).bind fun bt214 => ((curtilageref11_Same.f kj11 t186 bt191.1).bind fun t216 => (if t216 = true then (if t189 = bt191.2.1 then (if t190 = bt191.2.2 then ((curtilageref11_Same.f kj11 bt196.1 bt200.1).bind fun t217 => (if t217 = true then (if bt196.2 = bt200.2 then ((curtilageref11_Same.f kj11 bt204.1 bt208.1).bind fun t218 => (if t218 = true then (if bt204.2 = bt208.2 then (if bt212.1 = bt214.1 then (curtilagelaw11_FramesDo.j2 kj11 l0 a2 t186 bt196.1 bt204.1 (bt212.2 != bt214.2)) else (curtilagelaw11_FramesDo.j2 kj11 l0 a2 t186 bt196.1 bt204.1 true)) else (curtilagelaw11_FramesDo.j2 kj11 l0 a2 t186 bt196.1 bt204.1 true)) else (curtilagelaw11_FramesDo.j2 kj11 l0 a2 t186 bt196.1 bt204.1 true))) else (curtilagelaw11_FramesDo.j2 kj11 l0 a2 t186 bt196.1 bt204.1 true)) else (curtilagelaw11_FramesDo.j2 kj11 l0 a2 t186 bt196.1 bt204.1 true))) else (curtilagelaw11_FramesDo.j2 kj11 l0 a2 t186 bt196.1 bt204.1 true)) else (curtilagelaw11_FramesDo.j2 kj11 l0 a2 t186 bt196.1 bt204.1 true)) else (curtilagelaw11_FramesDo.j2 kj11 l0 a2 t186 bt196.1 bt204.1 true)))))))))) = some true := H
                have A42 := Aside0.mk A420
                clear A420
                replace H := Option.bind_eq_some_iff.mp H
                obtain ⟨⟨t191, t194, t195⟩, A430, H⟩ := H
                replace H : ((frames_Give.f l0 a2 a3).bind fun bt196 => ((curtilageref11_Give.f kj11 l0 a2 a3).bind fun bt200 => ((frames_Drop.f l0 a2).bind fun bt204 => ((curtilageref11_Drop.f kj11 l0 a2).bind fun bt208 => ((frames_Find.f l0 a2 a3).bind fun bt212 => ((curtilageref11_Find.f kj11 l0 a2 a3).bind fun bt214 => ((curtilageref11_Same.f kj11 t186 t191).bind fun t216 => (if t216 = true then (if t189 = t194 then (if t190 = t195 then ((curtilageref11_Same.f kj11 bt196.1 bt200.1).bind fun t217 => (if t217 = true then (if bt196.2 = bt200.2 then ((curtilageref11_Same.f kj11 bt204.1 bt208.1).bind fun t218 => (if t218 = true then (if bt204.2 = bt208.2 then (if bt212.1 = bt214.1 then (curtilagelaw11_FramesDo.j2 kj11 l0 a2 t186 bt196.1 bt204.1 (bt212.2 != bt214.2)) else (curtilagelaw11_FramesDo.j2 kj11 l0 a2 t186 bt196.1 bt204.1 true)) else (curtilagelaw11_FramesDo.j2 kj11 l0 a2 t186 bt196.1 bt204.1 true)) else (curtilagelaw11_FramesDo.j2 kj11 l0 a2 t186 bt196.1 bt204.1 true))) else (curtilagelaw11_FramesDo.j2 kj11 l0 a2 t186 bt196.1 bt204.1 true)) else (curtilagelaw11_FramesDo.j2 kj11 l0 a2 t186 bt196.1 bt204.1 true))) else (curtilagelaw11_FramesDo.j2 kj11 l0 a2 t186 bt196.1 bt204.1 true)) else (curtilagelaw11_FramesDo.j2 kj11 l0 a2 t186 bt196.1 bt204.1 true)) else (curtilagelaw11_FramesDo.j2 kj11 l0 a2 t186 bt196.1 bt204.1 true))))))))) = some true := H
                have A43 := Aside0.mk A430
                clear A430
                replace H := Option.bind_eq_some_iff.mp H
                obtain ⟨⟨t196, t199⟩, A440, H⟩ := H
                replace H : ((curtilageref11_Give.f kj11 l0 a2 a3).bind fun bt200 => ((frames_Drop.f l0 a2).bind fun bt204 => ((curtilageref11_Drop.f kj11 l0 a2).bind fun bt208 => ((frames_Find.f l0 a2 a3).bind fun bt212 => ((curtilageref11_Find.f kj11 l0 a2 a3).bind fun bt214 => ((curtilageref11_Same.f kj11 t186 t191).bind fun t216 => (if t216 = true then (if t189 = t194 then (if t190 = t195 then ((curtilageref11_Same.f kj11 t196 bt200.1).bind fun t217 => (if t217 = true then (if t199 = bt200.2 then ((curtilageref11_Same.f kj11 bt204.1 bt208.1).bind fun t218 => (if t218 = true then (if bt204.2 = bt208.2 then (if bt212.1 = bt214.1 then (curtilagelaw11_FramesDo.j2 kj11 l0 a2 t186 t196 bt204.1 (bt212.2 != bt214.2)) else (curtilagelaw11_FramesDo.j2 kj11 l0 a2 t186 t196 bt204.1 true)) else (curtilagelaw11_FramesDo.j2 kj11 l0 a2 t186 t196 bt204.1 true)) else (curtilagelaw11_FramesDo.j2 kj11 l0 a2 t186 t196 bt204.1 true))) else (curtilagelaw11_FramesDo.j2 kj11 l0 a2 t186 t196 bt204.1 true)) else (curtilagelaw11_FramesDo.j2 kj11 l0 a2 t186 t196 bt204.1 true))) else (curtilagelaw11_FramesDo.j2 kj11 l0 a2 t186 t196 bt204.1 true)) else (curtilagelaw11_FramesDo.j2 kj11 l0 a2 t186 t196 bt204.1 true)) else (curtilagelaw11_FramesDo.j2 kj11 l0 a2 t186 t196 bt204.1 true)))))))) = some true := H
                have A44 := Aside0.mk A440
                clear A440
                replace H := Option.bind_eq_some_iff.mp H
                obtain ⟨⟨t200, t203⟩, A450, H⟩ := H
                replace H : ((frames_Drop.f l0 a2).bind fun bt204 => ((curtilageref11_Drop.f kj11 l0 a2).bind fun bt208 => ((frames_Find.f l0 a2 a3).bind fun bt212 => ((curtilageref11_Find.f kj11 l0 a2 a3).bind fun bt214 => ((curtilageref11_Same.f kj11 t186 t191).bind fun t216 => (if t216 = true then (if t189 = t194 then (if t190 = t195 then ((curtilageref11_Same.f kj11 t196 t200).bind fun t217 => (if t217 = true then (if t199 = t203 then ((curtilageref11_Same.f kj11 bt204.1 bt208.1).bind fun t218 => (if t218 = true then (if bt204.2 = bt208.2 then (if bt212.1 = bt214.1 then (curtilagelaw11_FramesDo.j2 kj11 l0 a2 t186 t196 bt204.1 (bt212.2 != bt214.2)) else (curtilagelaw11_FramesDo.j2 kj11 l0 a2 t186 t196 bt204.1 true)) else (curtilagelaw11_FramesDo.j2 kj11 l0 a2 t186 t196 bt204.1 true)) else (curtilagelaw11_FramesDo.j2 kj11 l0 a2 t186 t196 bt204.1 true))) else (curtilagelaw11_FramesDo.j2 kj11 l0 a2 t186 t196 bt204.1 true)) else (curtilagelaw11_FramesDo.j2 kj11 l0 a2 t186 t196 bt204.1 true))) else (curtilagelaw11_FramesDo.j2 kj11 l0 a2 t186 t196 bt204.1 true)) else (curtilagelaw11_FramesDo.j2 kj11 l0 a2 t186 t196 bt204.1 true)) else (curtilagelaw11_FramesDo.j2 kj11 l0 a2 t186 t196 bt204.1 true))))))) = some true := H
                have A45 := Aside0.mk A450
                clear A450
                replace H := Option.bind_eq_some_iff.mp H
                obtain ⟨⟨t204, t205⟩, A460, H⟩ := H
                replace H : ((curtilageref11_Drop.f kj11 l0 a2).bind fun bt208 => ((frames_Find.f l0 a2 a3).bind fun bt212 => ((curtilageref11_Find.f kj11 l0 a2 a3).bind fun bt214 => ((curtilageref11_Same.f kj11 t186 t191).bind fun t216 => (if t216 = true then (if t189 = t194 then (if t190 = t195 then ((curtilageref11_Same.f kj11 t196 t200).bind fun t217 => (if t217 = true then (if t199 = t203 then ((curtilageref11_Same.f kj11 t204 bt208.1).bind fun t218 => (if t218 = true then (if t205 = bt208.2 then (if bt212.1 = bt214.1 then (curtilagelaw11_FramesDo.j2 kj11 l0 a2 t186 t196 t204 (bt212.2 != bt214.2)) else (curtilagelaw11_FramesDo.j2 kj11 l0 a2 t186 t196 t204 true)) else (curtilagelaw11_FramesDo.j2 kj11 l0 a2 t186 t196 t204 true)) else (curtilagelaw11_FramesDo.j2 kj11 l0 a2 t186 t196 t204 true))) else (curtilagelaw11_FramesDo.j2 kj11 l0 a2 t186 t196 t204 true)) else (curtilagelaw11_FramesDo.j2 kj11 l0 a2 t186 t196 t204 true))) else (curtilagelaw11_FramesDo.j2 kj11 l0 a2 t186 t196 t204 true)) else (curtilagelaw11_FramesDo.j2 kj11 l0 a2 t186 t196 t204 true)) else (curtilagelaw11_FramesDo.j2 kj11 l0 a2 t186 t196 t204 true)))))) = some true := H
                have A46 := Aside0.mk A460
                clear A460
                replace H := Option.bind_eq_some_iff.mp H
                obtain ⟨⟨t208, t209⟩, A470, H⟩ := H
                replace H : ((frames_Find.f l0 a2 a3).bind fun bt212 => ((curtilageref11_Find.f kj11 l0 a2 a3).bind fun bt214 => ((curtilageref11_Same.f kj11 t186 t191).bind fun t216 => (if t216 = true then (if t189 = t194 then (if t190 = t195 then ((curtilageref11_Same.f kj11 t196 t200).bind fun t217 => (if t217 = true then (if t199 = t203 then ((curtilageref11_Same.f kj11 t204 t208).bind fun t218 => (if t218 = true then (if t205 = t209 then (if bt212.1 = bt214.1 then (curtilagelaw11_FramesDo.j2 kj11 l0 a2 t186 t196 t204 (bt212.2 != bt214.2)) else (curtilagelaw11_FramesDo.j2 kj11 l0 a2 t186 t196 t204 true)) else (curtilagelaw11_FramesDo.j2 kj11 l0 a2 t186 t196 t204 true)) else (curtilagelaw11_FramesDo.j2 kj11 l0 a2 t186 t196 t204 true))) else (curtilagelaw11_FramesDo.j2 kj11 l0 a2 t186 t196 t204 true)) else (curtilagelaw11_FramesDo.j2 kj11 l0 a2 t186 t196 t204 true))) else (curtilagelaw11_FramesDo.j2 kj11 l0 a2 t186 t196 t204 true)) else (curtilagelaw11_FramesDo.j2 kj11 l0 a2 t186 t196 t204 true)) else (curtilagelaw11_FramesDo.j2 kj11 l0 a2 t186 t196 t204 true))))) = some true := H
                have A47 := Aside0.mk A470
                clear A470
                replace H := Option.bind_eq_some_iff.mp H
                obtain ⟨⟨t212, t213⟩, A480, H⟩ := H
                replace H : ((curtilageref11_Find.f kj11 l0 a2 a3).bind fun bt214 => ((curtilageref11_Same.f kj11 t186 t191).bind fun t216 => (if t216 = true then (if t189 = t194 then (if t190 = t195 then ((curtilageref11_Same.f kj11 t196 t200).bind fun t217 => (if t217 = true then (if t199 = t203 then ((curtilageref11_Same.f kj11 t204 t208).bind fun t218 => (if t218 = true then (if t205 = t209 then (if t212 = bt214.1 then (curtilagelaw11_FramesDo.j2 kj11 l0 a2 t186 t196 t204 (t213 != bt214.2)) else (curtilagelaw11_FramesDo.j2 kj11 l0 a2 t186 t196 t204 true)) else (curtilagelaw11_FramesDo.j2 kj11 l0 a2 t186 t196 t204 true)) else (curtilagelaw11_FramesDo.j2 kj11 l0 a2 t186 t196 t204 true))) else (curtilagelaw11_FramesDo.j2 kj11 l0 a2 t186 t196 t204 true)) else (curtilagelaw11_FramesDo.j2 kj11 l0 a2 t186 t196 t204 true))) else (curtilagelaw11_FramesDo.j2 kj11 l0 a2 t186 t196 t204 true)) else (curtilagelaw11_FramesDo.j2 kj11 l0 a2 t186 t196 t204 true)) else (curtilagelaw11_FramesDo.j2 kj11 l0 a2 t186 t196 t204 true)))) = some true := H
                have A48 := Aside0.mk A480
                clear A480
                replace H := Option.bind_eq_some_iff.mp H
                obtain ⟨⟨t214, t215⟩, A490, H⟩ := H
                replace H : ((curtilageref11_Same.f kj11 t186 t191).bind fun t216 => (if t216 = true then (if t189 = t194 then (if t190 = t195 then ((curtilageref11_Same.f kj11 t196 t200).bind fun t217 => (if t217 = true then (if t199 = t203 then ((curtilageref11_Same.f kj11 t204 t208).bind fun t218 => (if t218 = true then (if t205 = t209 then (if t212 = t214 then (curtilagelaw11_FramesDo.j2 kj11 l0 a2 t186 t196 t204 (t213 != t215)) else (curtilagelaw11_FramesDo.j2 kj11 l0 a2 t186 t196 t204 true)) else (curtilagelaw11_FramesDo.j2 kj11 l0 a2 t186 t196 t204 true)) else (curtilagelaw11_FramesDo.j2 kj11 l0 a2 t186 t196 t204 true))) else (curtilagelaw11_FramesDo.j2 kj11 l0 a2 t186 t196 t204 true)) else (curtilagelaw11_FramesDo.j2 kj11 l0 a2 t186 t196 t204 true))) else (curtilagelaw11_FramesDo.j2 kj11 l0 a2 t186 t196 t204 true)) else (curtilagelaw11_FramesDo.j2 kj11 l0 a2 t186 t196 t204 true)) else (curtilagelaw11_FramesDo.j2 kj11 l0 a2 t186 t196 t204 true))) = some true := H
                have A49 := Aside0.mk A490
                clear A490
                have HC50 := Aside0.mk H
                clear H
                go_upto_region 17 with (first | ((with_reducible refine gate_callee (f := 14) rfl ?_); refine goesL_ (some 82) rfl rfl Try.func14 (by kernel_rfl) rfl #[.slice A0 l0.length c0] rfl (by (try simp only [List.map_toArray, List.map_cons, List.map_nil]); first | done | rfl | (simp only [List.length_drop, List.length_take]; rfl)) ?_; (with_reducible refine (curtilageref11_Fit.calls kj11 _ _ l0 true _ ?side1 ?side2 A40.out).mono ?_); (case side1 => repeat (first | exact (Kd.C_below HR0.out HB.out) | (with_reducible refine Kd.C_alloc ?_ _) | (with_reducible refine Kd.C_drewN ?_ _) | (with_reducible refine Kd.C_drew ?_))); (case side2 => exact HC0.out); rintro e w51 ⟨rfl, hb⟩; refine ⟨_, rfl, ?_⟩; have n0_ := Aside0.mk (below_step (by repeat (first | (with_reducible first | exact HB.out | apply below_alloc | apply pw_below_drewN | apply below_drew1) | exact HB.out)) hb); clear HB; have HB := n0_; clear n0_; (try clear hb); (try clear hb2); (try clear hk); (try clear hi)) | ((with_reducible refine gate_callee (f := 8) rfl ?_); refine goesL_ (some 89) rfl rfl Try.func8 (by kernel_rfl) rfl #[.slice A0 l0.length c0, .int .u64 a2, .int .i64 a3] rfl (by (try simp only [List.map_toArray, List.map_cons, List.map_nil]); first | done | rfl | (simp only [List.length_drop, List.length_take]; rfl)) ?_; (with_reducible refine (frames_Take.calls (fun k_ => k_ < w.heap.size) _ _ l0 a2 a3 t186 t189 t190 _ ?side1 A42.out).mono ?_); (case side1 => exact Kd.V_mk HC0.out (Kd.F_below (Kd.C_F k45_heap HR0.out) (by repeat (first | (with_reducible first | exact HB.out | apply below_alloc | apply pw_below_drewN | apply below_drew1) | exact HB.out)))); rintro e w52 ⟨v187, rfl, ho0, hb⟩; refine ⟨_, rfl, ?_⟩; have n0_ := Aside0.mk (Kd.V_lower (Kd.V_mono (ok' := fun k_ => True) ho0 (fun k_ hk_ => trivial)) (below_size (by repeat (first | (with_reducible first | exact HB.out | apply below_alloc | apply pw_below_drewN | apply below_drew1) | exact HB.out)))); have n1_ := Aside0.mk (below_step (by repeat (first | (with_reducible first | exact HB.out | apply below_alloc | apply pw_below_drewN | apply below_drew1) | exact HB.out)) hb); clear HB; have HO188 := n0_; have HB := n1_; clear n0_ n1_; (try clear hb); (try clear hb2); (try clear hk); (try clear hi); (try clear ho0)) | ((with_reducible refine gate_callee (f := 19) rfl ?_); refine goesL_ (some 97) rfl rfl Try.func19 (by kernel_rfl) rfl #[.slice A0 l0.length c0, .int .u64 a2, .int .i64 a3] rfl (by (try simp only [List.map_toArray, List.map_cons, List.map_nil]); first | done | rfl | (simp only [List.length_drop, List.length_take]; rfl)) ?_; (with_reducible refine (curtilageref11_Take.calls kj11 (fun k_ => k_ < w.heap.size) _ _ l0 a2 a3 t191 t194 t195 _ ?side1 A43.out).mono ?_); (case side1 => exact Kd.V_mk HC0.out (Kd.F_below (Kd.C_F k45_heap HR0.out) (by repeat (first | (with_reducible first | exact HB.out | apply below_alloc | apply pw_below_drewN | apply below_drew1) | exact HB.out)))); rintro e w53 ⟨v192, rfl, ho0, hb⟩; refine ⟨_, rfl, ?_⟩; have n0_ := Aside0.mk (Kd.V_below (by (with_reducible repeat (first | apply Kd.V_alloc | apply Kd.V_drewN | apply Kd.V_drew)); exact HO188.out) hb); have n1_ := Aside0.mk (Kd.V_lower (Kd.V_mono (ok' := fun k_ => True) ho0 (fun k_ hk_ => trivial)) (below_size (by repeat (first | (with_reducible first | exact HB.out | apply below_alloc | apply pw_below_drewN | apply below_drew1) | exact HB.out)))); have n2_ := Aside0.mk (below_step (by repeat (first | (with_reducible first | exact HB.out | apply below_alloc | apply pw_below_drewN | apply below_drew1) | exact HB.out)) hb); clear HO188; clear HB; have HO188 := n0_; have HO193 := n1_; have HB := n2_; clear n0_ n1_ n2_; (try clear hb); (try clear hb2); (try clear hk); (try clear hi); (try clear ho0)) | ((with_reducible refine gate_callee (f := 10) rfl ?_); refine goesL_ (some 105) rfl rfl Try.func10 (by kernel_rfl) rfl #[.slice A0 l0.length c0, .int .u64 a2, .int .i64 a3] rfl (by (try simp only [List.map_toArray, List.map_cons, List.map_nil]); first | done | rfl | (simp only [List.length_drop, List.length_take]; rfl)) ?_; (with_reducible refine (frames_Give.calls (fun k_ => k_ < w.heap.size) _ _ l0 a2 a3 t196 t199 _ ?side1 A44.out).mono ?_); (case side1 => exact Kd.V_mk HC0.out (Kd.F_below (Kd.C_F k45_heap HR0.out) (by repeat (first | (with_reducible first | exact HB.out | apply below_alloc | apply pw_below_drewN | apply below_drew1) | exact HB.out)))); rintro e w54 ⟨v197, rfl, ho0, hb⟩; refine ⟨_, rfl, ?_⟩; have n0_ := Aside0.mk (Kd.V_below (by (with_reducible repeat (first | apply Kd.V_alloc | apply Kd.V_drewN | apply Kd.V_drew)); exact HO188.out) hb); have n1_ := Aside0.mk (Kd.V_below (by (with_reducible repeat (first | apply Kd.V_alloc | apply Kd.V_drewN | apply Kd.V_drew)); exact HO193.out) hb); have n2_ := Aside0.mk (Kd.V_lower (Kd.V_mono (ok' := fun k_ => True) ho0 (fun k_ hk_ => trivial)) (below_size (by repeat (first | (with_reducible first | exact HB.out | apply below_alloc | apply pw_below_drewN | apply below_drew1) | exact HB.out)))); have n3_ := Aside0.mk (below_step (by repeat (first | (with_reducible first | exact HB.out | apply below_alloc | apply pw_below_drewN | apply below_drew1) | exact HB.out)) hb); clear HO188; clear HO193; clear HB; have HO188 := n0_; have HO193 := n1_; have HO198 := n2_; have HB := n3_; clear n0_ n1_ n2_ n3_; (try clear hb); (try clear hb2); (try clear hk); (try clear hi); (try clear ho0)) | ((with_reducible refine gate_callee (f := 20) rfl ?_); refine goesL_ (some 112) rfl rfl Try.func20 (by kernel_rfl) rfl #[.slice A0 l0.length c0, .int .u64 a2, .int .i64 a3] rfl (by (try simp only [List.map_toArray, List.map_cons, List.map_nil]); first | done | rfl | (simp only [List.length_drop, List.length_take]; rfl)) ?_; (with_reducible refine (curtilageref11_Give.calls kj11 (fun k_ => k_ < w.heap.size) _ _ l0 a2 a3 t200 t203 _ ?side1 A45.out).mono ?_); (case side1 => exact Kd.V_mk HC0.out (Kd.F_below (Kd.C_F k45_heap HR0.out) (by repeat (first | (with_reducible first | exact HB.out | apply below_alloc | apply pw_below_drewN | apply below_drew1) | exact HB.out)))); rintro e w55 ⟨v201, rfl, ho0, hb⟩; refine ⟨_, rfl, ?_⟩; have n0_ := Aside0.mk (Kd.V_below (by (with_reducible repeat (first | apply Kd.V_alloc | apply Kd.V_drewN | apply Kd.V_drew)); exact HO188.out) hb); have n1_ := Aside0.mk (Kd.V_below (by (with_reducible repeat (first | apply Kd.V_alloc | apply Kd.V_drewN | apply Kd.V_drew)); exact HO193.out) hb); have n2_ := Aside0.mk (Kd.V_below (by (with_reducible repeat (first | apply Kd.V_alloc | apply Kd.V_drewN | apply Kd.V_drew)); exact HO198.out) hb); have n3_ := Aside0.mk (Kd.V_lower (Kd.V_mono (ok' := fun k_ => True) ho0 (fun k_ hk_ => trivial)) (below_size (by repeat (first | (with_reducible first | exact HB.out | apply below_alloc | apply pw_below_drewN | apply below_drew1) | exact HB.out)))); have n4_ := Aside0.mk (below_step (by repeat (first | (with_reducible first | exact HB.out | apply below_alloc | apply pw_below_drewN | apply below_drew1) | exact HB.out)) hb); clear HO188; clear HO193; clear HO198; clear HB; have HO188 := n0_; have HO193 := n1_; have HO198 := n2_; have HO202 := n3_; have HB := n4_; clear n0_ n1_ n2_ n3_ n4_; (try clear hb); (try clear hb2); (try clear hk); (try clear hi); (try clear ho0)) | ((with_reducible refine gate_callee (f := 11) rfl ?_); refine goesL_ (some 118) rfl rfl Try.func11 (by kernel_rfl) rfl #[.slice A0 l0.length c0, .int .u64 a2] rfl (by (try simp only [List.map_toArray, List.map_cons, List.map_nil]); first | done | rfl | (simp only [List.length_drop, List.length_take]; rfl)) ?_; (with_reducible refine (frames_Drop.calls _ _ l0 a2 t204 t205 _ ?side1 ?side2 A46.out).mono ?_); (case side1 => repeat (first | exact (Kd.C_below HR0.out HB.out) | (with_reducible refine Kd.C_alloc ?_ _) | (with_reducible refine Kd.C_drewN ?_ _) | (with_reducible refine Kd.C_drew ?_))); (case side2 => exact HC0.out); rintro e w56 ⟨v206, rfl, ho0, hb⟩; refine ⟨_, rfl, ?_⟩; have n0_ := Aside0.mk (Kd.V_elder' (by (with_reducible repeat (first | apply Kd.V_alloc | apply Kd.V_drewN | apply Kd.V_drew)); exact HO188.out) (Kd.R_base ho0) hb); have n1_ := Aside0.mk (Kd.V_elder' (by (with_reducible repeat (first | apply Kd.V_alloc | apply Kd.V_drewN | apply Kd.V_drew)); exact HO193.out) (Kd.R_base ho0) hb); have n2_ := Aside0.mk (Kd.V_elder' (by (with_reducible repeat (first | apply Kd.V_alloc | apply Kd.V_drewN | apply Kd.V_drew)); exact HO198.out) (Kd.R_base ho0) hb); have n3_ := Aside0.mk (Kd.V_elder' (by (with_reducible repeat (first | apply Kd.V_alloc | apply Kd.V_drewN | apply Kd.V_drew)); exact HO202.out) (Kd.R_base ho0) hb); have n4_ := Aside0.mk (Kd.R_lower ho0 (below_size (by repeat (first | (with_reducible first | exact HB.out | apply below_alloc | apply pw_below_drewN | apply below_drew1) | exact HB.out)))); have n5_ := Aside0.mk (below_step (by repeat (first | (with_reducible first | exact HB.out | apply below_alloc | apply pw_below_drewN | apply below_drew1) | exact HB.out)) hb); clear HO188; clear HO193; clear HO198; clear HO202; clear HB; have HO188 := n0_; have HO193 := n1_; have HO198 := n2_; have HO202 := n3_; have HO207 := n4_; have HB := n5_; clear n0_ n1_ n2_ n3_ n4_ n5_; (try clear hb); (try clear hb2); (try clear hk); (try clear hi); (try clear ho0)) | ((with_reducible refine gate_callee (f := 21) rfl ?_); refine goesL_ (some 124) rfl rfl Try.func21 (by kernel_rfl) rfl #[.slice A0 l0.length c0, .int .u64 a2] rfl (by (try simp only [List.map_toArray, List.map_cons, List.map_nil]); first | done | rfl | (simp only [List.length_drop, List.length_take]; rfl)) ?_; (with_reducible refine (curtilageref11_Drop.calls kj11 _ _ l0 a2 t208 t209 _ ?side1 ?side2 A47.out).mono ?_); (case side1 => repeat (first | exact (Kd.C_below HR0.out HB.out) | (with_reducible refine Kd.C_alloc ?_ _) | (with_reducible refine Kd.C_drewN ?_ _) | (with_reducible refine Kd.C_drew ?_))); (case side2 => exact HC0.out); rintro e w57 ⟨v210, rfl, ho0, hb⟩; refine ⟨_, rfl, ?_⟩; have n0_ := Aside0.mk (Kd.V_elder' (by (with_reducible repeat (first | apply Kd.V_alloc | apply Kd.V_drewN | apply Kd.V_drew)); exact HO188.out) (Kd.R_base ho0) hb); have n1_ := Aside0.mk (Kd.V_elder' (by (with_reducible repeat (first | apply Kd.V_alloc | apply Kd.V_drewN | apply Kd.V_drew)); exact HO193.out) (Kd.R_base ho0) hb); have n2_ := Aside0.mk (Kd.V_elder' (by (with_reducible repeat (first | apply Kd.V_alloc | apply Kd.V_drewN | apply Kd.V_drew)); exact HO198.out) (Kd.R_base ho0) hb); have n3_ := Aside0.mk (Kd.V_elder' (by (with_reducible repeat (first | apply Kd.V_alloc | apply Kd.V_drewN | apply Kd.V_drew)); exact HO202.out) (Kd.R_base ho0) hb); have n4_ := Aside0.mk (Kd.R_elder' (by (with_reducible repeat (first | apply Kd.R_alloc | apply Kd.R_drewN | apply Kd.R_drew)); exact HO207.out) (Kd.R_base ho0) hb); have n5_ := Aside0.mk (Kd.R_lower (Kd.R_new' ho0 (Kd.R_lt (by (with_reducible repeat (first | apply Kd.R_alloc | apply Kd.R_drewN | apply Kd.R_drew)); exact HO207.out))) (below_size (by repeat (first | (with_reducible first | exact HB.out | apply below_alloc | apply pw_below_drewN | apply below_drew1) | exact HB.out)))); have n6_ := Aside0.mk (below_step (by repeat (first | (with_reducible first | exact HB.out | apply below_alloc | apply pw_below_drewN | apply below_drew1) | exact HB.out)) hb); clear HO188; clear HO193; clear HO198; clear HO202; clear HO207; clear HB; have HO188 := n0_; have HO193 := n1_; have HO198 := n2_; have HO202 := n3_; have HO207 := n4_; have HO211 := n5_; have HB := n6_; clear n0_ n1_ n2_ n3_ n4_ n5_ n6_; (try clear hb); (try clear hb2); (try clear hk); (try clear hi); (try clear ho0)) | ((with_reducible refine gate_callee (f := 13) rfl ?_); refine goesL_ (some 131) rfl rfl Try.func13 (by kernel_rfl) rfl #[.slice A0 l0.length c0, .int .u64 a2, .int .i64 a3] rfl (by (try simp only [List.map_toArray, List.map_cons, List.map_nil]); first | done | rfl | (simp only [List.length_drop, List.length_take]; rfl)) ?_; (with_reducible refine (frames_Find.calls _ _ l0 a2 a3 t212 t213 _ ?side1 ?side2 A48.out).mono ?_); (case side1 => repeat (first | exact (Kd.C_below HR0.out HB.out) | (with_reducible refine Kd.C_alloc ?_ _) | (with_reducible refine Kd.C_drewN ?_ _) | (with_reducible refine Kd.C_drew ?_))); (case side2 => exact HC0.out); rintro e w58 ⟨rfl, hb⟩; refine ⟨_, rfl, ?_⟩; have n0_ := Aside0.mk (Kd.V_below (by (with_reducible repeat (first | apply Kd.V_alloc | apply Kd.V_drewN | apply Kd.V_drew)); exact HO188.out) hb); have n1_ := Aside0.mk (Kd.V_below (by (with_reducible repeat (first | apply Kd.V_alloc | apply Kd.V_drewN | apply Kd.V_drew)); exact HO193.out) hb); have n2_ := Aside0.mk (Kd.V_below (by (with_reducible repeat (first | apply Kd.V_alloc | apply Kd.V_drewN | apply Kd.V_drew)); exact HO198.out) hb); have n3_ := Aside0.mk (Kd.V_below (by (with_reducible repeat (first | apply Kd.V_alloc | apply Kd.V_drewN | apply Kd.V_drew)); exact HO202.out) hb); have n4_ := Aside0.mk (Kd.R_below (by (with_reducible repeat (first | apply Kd.R_alloc | apply Kd.R_drewN | apply Kd.R_drew)); exact HO207.out) hb); have n5_ := Aside0.mk (Kd.R_below (by (with_reducible repeat (first | apply Kd.R_alloc | apply Kd.R_drewN | apply Kd.R_drew)); exact HO211.out) hb); have n6_ := Aside0.mk (below_step (by repeat (first | (with_reducible first | exact HB.out | apply below_alloc | apply pw_below_drewN | apply below_drew1) | exact HB.out)) hb); clear HO188; clear HO193; clear HO198; clear HO202; clear HO207; clear HO211; clear HB; have HO188 := n0_; have HO193 := n1_; have HO198 := n2_; have HO202 := n3_; have HO207 := n4_; have HO211 := n5_; have HB := n6_; clear n0_ n1_ n2_ n3_ n4_ n5_ n6_; (try clear hb); (try clear hb2); (try clear hk); (try clear hi)) | ((with_reducible refine gate_callee (f := 22) rfl ?_); refine goesL_ (some 138) rfl rfl Try.func22 (by kernel_rfl) rfl #[.slice A0 l0.length c0, .int .u64 a2, .int .i64 a3] rfl (by (try simp only [List.map_toArray, List.map_cons, List.map_nil]); first | done | rfl | (simp only [List.length_drop, List.length_take]; rfl)) ?_; (with_reducible refine (curtilageref11_Find.calls kj11 _ _ l0 a2 a3 t214 t215 _ ?side1 ?side2 A49.out).mono ?_); (case side1 => repeat (first | exact (Kd.C_below HR0.out HB.out) | (with_reducible refine Kd.C_alloc ?_ _) | (with_reducible refine Kd.C_drewN ?_ _) | (with_reducible refine Kd.C_drew ?_))); (case side2 => exact HC0.out); rintro e w' ⟨rfl, ⟨nd, rfl⟩⟩; refine ⟨_, rfl, ?_⟩))
                (try simp only [Act.put, List.setIfInBounds_toArray, List.set_cons_zero, List.set_cons_succ])
                go_cut [186] (fun v186 wc => ∃ (kq : Nat) (x186_49 : Bool), v186 = .bool x186_49 ∧ Aside0 (curtilagelaw11_FramesDo.j2 kq l0 a2 t186 t196 t204 x186_49 = some true) ∧ Aside0 (kq ≤ kj11) ∧ Aside0 (Kd.V k45 45 wc w.heap.size (fun k_ => some k_ ≠ (v206 : Value).ownBlock) v187 t186) ∧ Aside0 (Kd.V k45 45 wc w.heap.size (fun k_ => some k_ ≠ (v206 : Value).ownBlock) v197 t196) ∧ Aside0 (Kd.R k45 45 wc w.heap.size (fun _ => True) v206 t204) ∧ Aside0 (Below w.heap.size w wc))
                case first =>
                  have H := HC50.out
                  clear HC50
                  replace H := Option.bind_eq_some_iff.mp H
                  obtain ⟨t216, A590, H⟩ := H
                  replace H : (if t216 = true then (if t189 = t194 then (if t190 = t195 then ((curtilageref11_Same.f kj11 t196 t200).bind fun t217 => (if t217 = true then (if t199 = t203 then ((curtilageref11_Same.f kj11 t204 t208).bind fun t218 => (if t218 = true then (if t205 = t209 then (if t212 = t214 then (curtilagelaw11_FramesDo.j2 kj11 l0 a2 t186 t196 t204 (t213 != t215)) else (curtilagelaw11_FramesDo.j2 kj11 l0 a2 t186 t196 t204 true)) else (curtilagelaw11_FramesDo.j2 kj11 l0 a2 t186 t196 t204 true)) else (curtilagelaw11_FramesDo.j2 kj11 l0 a2 t186 t196 t204 true))) else (curtilagelaw11_FramesDo.j2 kj11 l0 a2 t186 t196 t204 true)) else (curtilagelaw11_FramesDo.j2 kj11 l0 a2 t186 t196 t204 true))) else (curtilagelaw11_FramesDo.j2 kj11 l0 a2 t186 t196 t204 true)) else (curtilagelaw11_FramesDo.j2 kj11 l0 a2 t186 t196 t204 true)) else (curtilagelaw11_FramesDo.j2 kj11 l0 a2 t186 t196 t204 true)) = some true := H
                  have A59 := Aside0.mk A590
                  clear A590
                  by_cases c60 : t216 = true
                  · subst c60
                    have H1 : (if t189 = t194 then (if t190 = t195 then ((curtilageref11_Same.f kj11 t196 t200).bind fun t217 => (if t217 = true then (if t199 = t203 then ((curtilageref11_Same.f kj11 t204 t208).bind fun t218 => (if t218 = true then (if t205 = t209 then (if t212 = t214 then (curtilagelaw11_FramesDo.j2 kj11 l0 a2 t186 t196 t204 (t213 != t215)) else (curtilagelaw11_FramesDo.j2 kj11 l0 a2 t186 t196 t204 true)) else (curtilagelaw11_FramesDo.j2 kj11 l0 a2 t186 t196 t204 true)) else (curtilagelaw11_FramesDo.j2 kj11 l0 a2 t186 t196 t204 true))) else (curtilagelaw11_FramesDo.j2 kj11 l0 a2 t186 t196 t204 true)) else (curtilagelaw11_FramesDo.j2 kj11 l0 a2 t186 t196 t204 true))) else (curtilagelaw11_FramesDo.j2 kj11 l0 a2 t186 t196 t204 true)) else (curtilagelaw11_FramesDo.j2 kj11 l0 a2 t186 t196 t204 true)) = some true := by rw [if_pos rfl] at H; exact H
                    clear H
                    have H := H1
                    clear H1
                    by_cases c61 : t189 = t194
                    · rw [if_pos c61] at H
                      have c61b0 : (t189 == t194) = true := beq_iff_eq.mpr c61
                      have c61b1 : (t189 != t194) = false := bne_eq_false_iff_eq.mpr c61
                      clear c61
                      (first | rw [c61b0] | (simp only [i64_w, i32_w]; rw [c61b0]) | skip)
                      by_cases c62 : t190 = t195
                      · rw [if_pos c62] at H
                        have c62b0 : (t190 == t195) = true := beq_iff_eq.mpr c62
                        have c62b1 : (t190 != t195) = false := bne_eq_false_iff_eq.mpr c62
                        clear c62
                        replace H := Option.bind_eq_some_iff.mp H
                        obtain ⟨t217, A630, H⟩ := H
                        replace H : (if t217 = true then (if t199 = t203 then ((curtilageref11_Same.f kj11 t204 t208).bind fun t218 => (if t218 = true then (if t205 = t209 then (if t212 = t214 then (curtilagelaw11_FramesDo.j2 kj11 l0 a2 t186 t196 t204 (t213 != t215)) else (curtilagelaw11_FramesDo.j2 kj11 l0 a2 t186 t196 t204 true)) else (curtilagelaw11_FramesDo.j2 kj11 l0 a2 t186 t196 t204 true)) else (curtilagelaw11_FramesDo.j2 kj11 l0 a2 t186 t196 t204 true))) else (curtilagelaw11_FramesDo.j2 kj11 l0 a2 t186 t196 t204 true)) else (curtilagelaw11_FramesDo.j2 kj11 l0 a2 t186 t196 t204 true)) = some true := H
                        have A63 := Aside0.mk A630
                        clear A630
                        by_cases c64 : t217 = true
                        · subst c64
                          have H1 : (if t199 = t203 then ((curtilageref11_Same.f kj11 t204 t208).bind fun t218 => (if t218 = true then (if t205 = t209 then (if t212 = t214 then (curtilagelaw11_FramesDo.j2 kj11 l0 a2 t186 t196 t204 (t213 != t215)) else (curtilagelaw11_FramesDo.j2 kj11 l0 a2 t186 t196 t204 true)) else (curtilagelaw11_FramesDo.j2 kj11 l0 a2 t186 t196 t204 true)) else (curtilagelaw11_FramesDo.j2 kj11 l0 a2 t186 t196 t204 true))) else (curtilagelaw11_FramesDo.j2 kj11 l0 a2 t186 t196 t204 true)) = some true := by rw [if_pos rfl] at H; exact H
                          clear H
                          have H := H1
                          clear H1
                          by_cases c65 : t199 = t203
                          · rw [if_pos c65] at H
                            have c65b0 : (t199 == t203) = true := beq_iff_eq.mpr c65
                            have c65b1 : (t199 != t203) = false := bne_eq_false_iff_eq.mpr c65
                            clear c65
                            replace H := Option.bind_eq_some_iff.mp H
                            obtain ⟨t218, A660, H⟩ := H
                            replace H : (if t218 = true then (if t205 = t209 then (if t212 = t214 then (curtilagelaw11_FramesDo.j2 kj11 l0 a2 t186 t196 t204 (t213 != t215)) else (curtilagelaw11_FramesDo.j2 kj11 l0 a2 t186 t196 t204 true)) else (curtilagelaw11_FramesDo.j2 kj11 l0 a2 t186 t196 t204 true)) else (curtilagelaw11_FramesDo.j2 kj11 l0 a2 t186 t196 t204 true)) = some true := H
                            have A66 := Aside0.mk A660
                            clear A660
                            by_cases c67 : t218 = true
                            · subst c67
                              have H1 : (if t205 = t209 then (if t212 = t214 then (curtilagelaw11_FramesDo.j2 kj11 l0 a2 t186 t196 t204 (t213 != t215)) else (curtilagelaw11_FramesDo.j2 kj11 l0 a2 t186 t196 t204 true)) else (curtilagelaw11_FramesDo.j2 kj11 l0 a2 t186 t196 t204 true)) = some true := by rw [if_pos rfl] at H; exact H
                              clear H
                              have H := H1
                              clear H1
                              by_cases c68 : t205 = t209
                              · rw [if_pos c68] at H
                                have c68b0 : (t205 == t209) = true := beq_iff_eq.mpr c68
                                have c68b1 : (t205 != t209) = false := bne_eq_false_iff_eq.mpr c68
                                clear c68
                                by_cases c69 : t212 = t214
                                · rw [if_pos c69] at H
                                  have c69b0 : (t212 == t214) = true := beq_iff_eq.mpr c69
                                  have c69b1 : (t212 != t214) = false := bne_eq_false_iff_eq.mpr c69
                                  clear c69
                                  first
                                  | exact absurd H (by first | decide | exact curtilagelaw11_FramesDo.j1_dead _ _ _ _ | exact curtilagelaw11_FramesDo.j2_dead _ _ _ _ _ _)
                                  | skip
                                  all_goals (
                                    have H' := Aside0.mk H
                                    clear H
                                    obtain ⟨Ao70, co70, eo70⟩ := Kd.V_slice HO188.out
                                    subst eo70
                                    obtain ⟨Ao71, co71, eo71⟩ := Kd.V_slice HO193.out
                                    subst eo71
                                    go_wp2_with (first | ((with_reducible refine gate_callee (f := 18) rfl ?_); refine goesL_ (some 143) rfl rfl Try.func18 (by kernel_rfl) rfl #[.slice Ao70 t186.length co70, .slice Ao71 t191.length co71] rfl (by (try simp only [List.map_toArray, List.map_cons, List.map_nil]); first | done | rfl | (simp only [List.length_drop, List.length_take]; rfl)) ?_; (with_reducible refine (curtilageref11_Same.calls kj11 _ _ t186 _ _ t191 true _ ?side1 ?side2 ?side3 ?side4 A59.out).mono ?_); (case side1 => repeat (first | exact (Kd.V_reads' HO188.out).2.2 | (with_reducible refine Kd.C_alloc ?_ _) | (with_reducible refine Kd.C_drewN ?_ _) | (with_reducible refine Kd.C_drew ?_))); (case side2 => exact (Kd.V_reads' HO188.out).2.1); (case side3 => repeat (first | exact (Kd.V_reads' HO193.out).2.2 | (with_reducible refine Kd.C_alloc ?_ _) | (with_reducible refine Kd.C_drewN ?_ _) | (with_reducible refine Kd.C_drew ?_))); (case side4 => exact (Kd.V_reads' HO193.out).2.1); rintro e w' ⟨rfl, ⟨nd, rfl⟩⟩; refine ⟨_, rfl, ?_⟩; obtain ⟨Ao72, co72, eo72⟩ := Kd.V_slice HO198.out; subst eo72; obtain ⟨Ao73, co73, eo73⟩ := Kd.V_slice HO202.out; subst eo73) | (go_at_call 18; (with_reducible refine (curtilageref11_Same.calls kj11 _ _ t196 _ _ t200 true _ ?side1 ?side2 ?side3 ?side4 A63.out).mono ?_); (case side1 => repeat (first | exact (Kd.V_reads' HO198.out).2.2 | (with_reducible refine Kd.C_alloc ?_ _) | (with_reducible refine Kd.C_drewN ?_ _) | (with_reducible refine Kd.C_drew ?_))); (case side2 => exact (Kd.V_reads' HO198.out).2.1); (case side3 => repeat (first | exact (Kd.V_reads' HO202.out).2.2 | (with_reducible refine Kd.C_alloc ?_ _) | (with_reducible refine Kd.C_drewN ?_ _) | (with_reducible refine Kd.C_drew ?_))); (case side4 => exact (Kd.V_reads' HO202.out).2.1); rintro e w' ⟨rfl, ⟨nd, rfl⟩⟩; obtain ⟨Ao74, co74, eo74⟩ := Kd.R_slice HO207.out; subst eo74; obtain ⟨Ao75, co75, eo75⟩ := Kd.R_slice HO211.out; subst eo75) | (go_at_call 18; (with_reducible refine (curtilageref11_Same.calls kj11 _ _ t204 _ _ t208 true _ ?side1 ?side2 ?side3 ?side4 A66.out).mono ?_); (case side1 => repeat (first | exact (Kd.R_reads' HO207.out).2.2 | (with_reducible refine Kd.C_alloc ?_ _) | (with_reducible refine Kd.C_drewN ?_ _) | (with_reducible refine Kd.C_drew ?_))); (case side2 => exact (Kd.R_reads' HO207.out).2.1); (case side3 => repeat (first | exact (Kd.R_reads' HO211.out).2.2 | (with_reducible refine Kd.C_alloc ?_ _) | (with_reducible refine Kd.C_drewN ?_ _) | (with_reducible refine Kd.C_drew ?_))); (case side4 => exact (Kd.R_reads' HO211.out).2.1); rintro e w' ⟨rfl, ⟨nd, rfl⟩⟩))
                                    go_meet
                                    case rel => exact ⟨_, ((t213 != t215)), (by first | rfl | (simp; done) | (simp [*]; done)), H', ⟨by have := HJ4.out; have := HJ11.out; first | omega | exact Nat.le_refl _⟩, ⟨by (with_reducible repeat (first | apply Kd.V_alloc | apply Kd.V_drewN | apply Kd.V_drew)); exact Kd.V_mono HO188.out (fun _ hk => hk.1.2)⟩, ⟨by (with_reducible repeat (first | apply Kd.V_alloc | apply Kd.V_drewN | apply Kd.V_drew)); exact Kd.V_mono HO198.out (fun _ hk => hk.1.2)⟩, ⟨by (with_reducible repeat (first | apply Kd.R_alloc | apply Kd.R_drewN | apply Kd.R_drew)); exact Kd.R_mono HO207.out (fun _ hk => trivial)⟩, ⟨by repeat (first | (with_reducible first | exact HB.out | apply below_alloc | apply pw_below_drewN | apply below_drew1) | exact HB.out)⟩⟩)
                                · rw [if_neg c69] at H
                                  have c69b0 : (t212 == t214) = false := beq_eq_false_iff_ne.mpr c69
                                  have c69b1 : (t212 != t214) = true := bne_iff_ne.mpr c69
                                  first
                                  | exact absurd H (by first | decide | exact curtilagelaw11_FramesDo.j1_dead _ _ _ _ | exact curtilagelaw11_FramesDo.j2_dead _ _ _ _ _ _)
                                  | skip
                                  all_goals (
                                    have H' := Aside0.mk H
                                    clear H
                                    obtain ⟨Ao76, co76, eo76⟩ := Kd.V_slice HO188.out
                                    subst eo76
                                    obtain ⟨Ao77, co77, eo77⟩ := Kd.V_slice HO193.out
                                    subst eo77
                                    go_wp2_with (first | ((with_reducible refine gate_callee (f := 18) rfl ?_); refine goesL_ (some 143) rfl rfl Try.func18 (by kernel_rfl) rfl #[.slice Ao76 t186.length co76, .slice Ao77 t191.length co77] rfl (by (try simp only [List.map_toArray, List.map_cons, List.map_nil]); first | done | rfl | (simp only [List.length_drop, List.length_take]; rfl)) ?_; (with_reducible refine (curtilageref11_Same.calls kj11 _ _ t186 _ _ t191 true _ ?side1 ?side2 ?side3 ?side4 A59.out).mono ?_); (case side1 => repeat (first | exact (Kd.V_reads' HO188.out).2.2 | (with_reducible refine Kd.C_alloc ?_ _) | (with_reducible refine Kd.C_drewN ?_ _) | (with_reducible refine Kd.C_drew ?_))); (case side2 => exact (Kd.V_reads' HO188.out).2.1); (case side3 => repeat (first | exact (Kd.V_reads' HO193.out).2.2 | (with_reducible refine Kd.C_alloc ?_ _) | (with_reducible refine Kd.C_drewN ?_ _) | (with_reducible refine Kd.C_drew ?_))); (case side4 => exact (Kd.V_reads' HO193.out).2.1); rintro e w' ⟨rfl, ⟨nd, rfl⟩⟩; refine ⟨_, rfl, ?_⟩; obtain ⟨Ao78, co78, eo78⟩ := Kd.V_slice HO198.out; subst eo78; obtain ⟨Ao79, co79, eo79⟩ := Kd.V_slice HO202.out; subst eo79) | (go_at_call 18; (with_reducible refine (curtilageref11_Same.calls kj11 _ _ t196 _ _ t200 true _ ?side1 ?side2 ?side3 ?side4 A63.out).mono ?_); (case side1 => repeat (first | exact (Kd.V_reads' HO198.out).2.2 | (with_reducible refine Kd.C_alloc ?_ _) | (with_reducible refine Kd.C_drewN ?_ _) | (with_reducible refine Kd.C_drew ?_))); (case side2 => exact (Kd.V_reads' HO198.out).2.1); (case side3 => repeat (first | exact (Kd.V_reads' HO202.out).2.2 | (with_reducible refine Kd.C_alloc ?_ _) | (with_reducible refine Kd.C_drewN ?_ _) | (with_reducible refine Kd.C_drew ?_))); (case side4 => exact (Kd.V_reads' HO202.out).2.1); rintro e w' ⟨rfl, ⟨nd, rfl⟩⟩; obtain ⟨Ao80, co80, eo80⟩ := Kd.R_slice HO207.out; subst eo80; obtain ⟨Ao81, co81, eo81⟩ := Kd.R_slice HO211.out; subst eo81) | (go_at_call 18; (with_reducible refine (curtilageref11_Same.calls kj11 _ _ t204 _ _ t208 true _ ?side1 ?side2 ?side3 ?side4 A66.out).mono ?_); (case side1 => repeat (first | exact (Kd.R_reads' HO207.out).2.2 | (with_reducible refine Kd.C_alloc ?_ _) | (with_reducible refine Kd.C_drewN ?_ _) | (with_reducible refine Kd.C_drew ?_))); (case side2 => exact (Kd.R_reads' HO207.out).2.1); (case side3 => repeat (first | exact (Kd.R_reads' HO211.out).2.2 | (with_reducible refine Kd.C_alloc ?_ _) | (with_reducible refine Kd.C_drewN ?_ _) | (with_reducible refine Kd.C_drew ?_))); (case side4 => exact (Kd.R_reads' HO211.out).2.1); rintro e w' ⟨rfl, ⟨nd, rfl⟩⟩))
                                    go_meet
                                    case rel => exact ⟨_, (true), (by first | rfl | (simp; done) | (simp [*]; done)), H', ⟨by have := HJ4.out; have := HJ11.out; first | omega | exact Nat.le_refl _⟩, ⟨by (with_reducible repeat (first | apply Kd.V_alloc | apply Kd.V_drewN | apply Kd.V_drew)); exact Kd.V_mono HO188.out (fun _ hk => hk.1.2)⟩, ⟨by (with_reducible repeat (first | apply Kd.V_alloc | apply Kd.V_drewN | apply Kd.V_drew)); exact Kd.V_mono HO198.out (fun _ hk => hk.1.2)⟩, ⟨by (with_reducible repeat (first | apply Kd.R_alloc | apply Kd.R_drewN | apply Kd.R_drew)); exact Kd.R_mono HO207.out (fun _ hk => trivial)⟩, ⟨by repeat (first | (with_reducible first | exact HB.out | apply below_alloc | apply pw_below_drewN | apply below_drew1) | exact HB.out)⟩⟩)
                              · rw [if_neg c68] at H
                                have c68b0 : (t205 == t209) = false := beq_eq_false_iff_ne.mpr c68
                                have c68b1 : (t205 != t209) = true := bne_iff_ne.mpr c68
                                first
                                | exact absurd H (by first | decide | exact curtilagelaw11_FramesDo.j1_dead _ _ _ _ | exact curtilagelaw11_FramesDo.j2_dead _ _ _ _ _ _)
                                | skip
                                all_goals (
                                  have H' := Aside0.mk H
                                  clear H
                                  obtain ⟨Ao82, co82, eo82⟩ := Kd.V_slice HO188.out
                                  subst eo82
                                  obtain ⟨Ao83, co83, eo83⟩ := Kd.V_slice HO193.out
                                  subst eo83
                                  go_wp2_with (first | ((with_reducible refine gate_callee (f := 18) rfl ?_); refine goesL_ (some 143) rfl rfl Try.func18 (by kernel_rfl) rfl #[.slice Ao82 t186.length co82, .slice Ao83 t191.length co83] rfl (by (try simp only [List.map_toArray, List.map_cons, List.map_nil]); first | done | rfl | (simp only [List.length_drop, List.length_take]; rfl)) ?_; (with_reducible refine (curtilageref11_Same.calls kj11 _ _ t186 _ _ t191 true _ ?side1 ?side2 ?side3 ?side4 A59.out).mono ?_); (case side1 => repeat (first | exact (Kd.V_reads' HO188.out).2.2 | (with_reducible refine Kd.C_alloc ?_ _) | (with_reducible refine Kd.C_drewN ?_ _) | (with_reducible refine Kd.C_drew ?_))); (case side2 => exact (Kd.V_reads' HO188.out).2.1); (case side3 => repeat (first | exact (Kd.V_reads' HO193.out).2.2 | (with_reducible refine Kd.C_alloc ?_ _) | (with_reducible refine Kd.C_drewN ?_ _) | (with_reducible refine Kd.C_drew ?_))); (case side4 => exact (Kd.V_reads' HO193.out).2.1); rintro e w' ⟨rfl, ⟨nd, rfl⟩⟩; refine ⟨_, rfl, ?_⟩; obtain ⟨Ao84, co84, eo84⟩ := Kd.V_slice HO198.out; subst eo84; obtain ⟨Ao85, co85, eo85⟩ := Kd.V_slice HO202.out; subst eo85) | (go_at_call 18; (with_reducible refine (curtilageref11_Same.calls kj11 _ _ t196 _ _ t200 true _ ?side1 ?side2 ?side3 ?side4 A63.out).mono ?_); (case side1 => repeat (first | exact (Kd.V_reads' HO198.out).2.2 | (with_reducible refine Kd.C_alloc ?_ _) | (with_reducible refine Kd.C_drewN ?_ _) | (with_reducible refine Kd.C_drew ?_))); (case side2 => exact (Kd.V_reads' HO198.out).2.1); (case side3 => repeat (first | exact (Kd.V_reads' HO202.out).2.2 | (with_reducible refine Kd.C_alloc ?_ _) | (with_reducible refine Kd.C_drewN ?_ _) | (with_reducible refine Kd.C_drew ?_))); (case side4 => exact (Kd.V_reads' HO202.out).2.1); rintro e w' ⟨rfl, ⟨nd, rfl⟩⟩; obtain ⟨Ao86, co86, eo86⟩ := Kd.R_slice HO207.out; subst eo86; obtain ⟨Ao87, co87, eo87⟩ := Kd.R_slice HO211.out; subst eo87) | (go_at_call 18; (with_reducible refine (curtilageref11_Same.calls kj11 _ _ t204 _ _ t208 true _ ?side1 ?side2 ?side3 ?side4 A66.out).mono ?_); (case side1 => repeat (first | exact (Kd.R_reads' HO207.out).2.2 | (with_reducible refine Kd.C_alloc ?_ _) | (with_reducible refine Kd.C_drewN ?_ _) | (with_reducible refine Kd.C_drew ?_))); (case side2 => exact (Kd.R_reads' HO207.out).2.1); (case side3 => repeat (first | exact (Kd.R_reads' HO211.out).2.2 | (with_reducible refine Kd.C_alloc ?_ _) | (with_reducible refine Kd.C_drewN ?_ _) | (with_reducible refine Kd.C_drew ?_))); (case side4 => exact (Kd.R_reads' HO211.out).2.1); rintro e w' ⟨rfl, ⟨nd, rfl⟩⟩))
                                  go_meet
                                  case rel => exact ⟨_, (true), (by first | rfl | (simp; done) | (simp [*]; done)), H', ⟨by have := HJ4.out; have := HJ11.out; first | omega | exact Nat.le_refl _⟩, ⟨by (with_reducible repeat (first | apply Kd.V_alloc | apply Kd.V_drewN | apply Kd.V_drew)); exact Kd.V_mono HO188.out (fun _ hk => hk.1.2)⟩, ⟨by (with_reducible repeat (first | apply Kd.V_alloc | apply Kd.V_drewN | apply Kd.V_drew)); exact Kd.V_mono HO198.out (fun _ hk => hk.1.2)⟩, ⟨by (with_reducible repeat (first | apply Kd.R_alloc | apply Kd.R_drewN | apply Kd.R_drew)); exact Kd.R_mono HO207.out (fun _ hk => trivial)⟩, ⟨by repeat (first | (with_reducible first | exact HB.out | apply below_alloc | apply pw_below_drewN | apply below_drew1) | exact HB.out)⟩⟩)
                            · replace c67 := Bool.eq_false_iff.mpr c67
                              subst c67
                              have H1 : (curtilagelaw11_FramesDo.j2 kj11 l0 a2 t186 t196 t204 true) = some true := by rw [if_neg (show ¬ (false = true) by decide)] at H; exact H
                              clear H
                              have H := H1
                              clear H1
                              first
                              | exact absurd H (by first | decide | exact curtilagelaw11_FramesDo.j1_dead _ _ _ _ | exact curtilagelaw11_FramesDo.j2_dead _ _ _ _ _ _)
                              | skip
                              all_goals (
                                have H' := Aside0.mk H
                                clear H
                                obtain ⟨Ao88, co88, eo88⟩ := Kd.V_slice HO188.out
                                subst eo88
                                obtain ⟨Ao89, co89, eo89⟩ := Kd.V_slice HO193.out
                                subst eo89
                                go_wp2_with (first | ((with_reducible refine gate_callee (f := 18) rfl ?_); refine goesL_ (some 143) rfl rfl Try.func18 (by kernel_rfl) rfl #[.slice Ao88 t186.length co88, .slice Ao89 t191.length co89] rfl (by (try simp only [List.map_toArray, List.map_cons, List.map_nil]); first | done | rfl | (simp only [List.length_drop, List.length_take]; rfl)) ?_; (with_reducible refine (curtilageref11_Same.calls kj11 _ _ t186 _ _ t191 true _ ?side1 ?side2 ?side3 ?side4 A59.out).mono ?_); (case side1 => repeat (first | exact (Kd.V_reads' HO188.out).2.2 | (with_reducible refine Kd.C_alloc ?_ _) | (with_reducible refine Kd.C_drewN ?_ _) | (with_reducible refine Kd.C_drew ?_))); (case side2 => exact (Kd.V_reads' HO188.out).2.1); (case side3 => repeat (first | exact (Kd.V_reads' HO193.out).2.2 | (with_reducible refine Kd.C_alloc ?_ _) | (with_reducible refine Kd.C_drewN ?_ _) | (with_reducible refine Kd.C_drew ?_))); (case side4 => exact (Kd.V_reads' HO193.out).2.1); rintro e w' ⟨rfl, ⟨nd, rfl⟩⟩; refine ⟨_, rfl, ?_⟩; obtain ⟨Ao90, co90, eo90⟩ := Kd.V_slice HO198.out; subst eo90; obtain ⟨Ao91, co91, eo91⟩ := Kd.V_slice HO202.out; subst eo91) | (go_at_call 18; (with_reducible refine (curtilageref11_Same.calls kj11 _ _ t196 _ _ t200 true _ ?side1 ?side2 ?side3 ?side4 A63.out).mono ?_); (case side1 => repeat (first | exact (Kd.V_reads' HO198.out).2.2 | (with_reducible refine Kd.C_alloc ?_ _) | (with_reducible refine Kd.C_drewN ?_ _) | (with_reducible refine Kd.C_drew ?_))); (case side2 => exact (Kd.V_reads' HO198.out).2.1); (case side3 => repeat (first | exact (Kd.V_reads' HO202.out).2.2 | (with_reducible refine Kd.C_alloc ?_ _) | (with_reducible refine Kd.C_drewN ?_ _) | (with_reducible refine Kd.C_drew ?_))); (case side4 => exact (Kd.V_reads' HO202.out).2.1); rintro e w' ⟨rfl, ⟨nd, rfl⟩⟩; obtain ⟨Ao92, co92, eo92⟩ := Kd.R_slice HO207.out; subst eo92; obtain ⟨Ao93, co93, eo93⟩ := Kd.R_slice HO211.out; subst eo93) | (go_at_call 18; (with_reducible refine (curtilageref11_Same.calls kj11 _ _ t204 _ _ t208 false _ ?side1 ?side2 ?side3 ?side4 A66.out).mono ?_); (case side1 => repeat (first | exact (Kd.R_reads' HO207.out).2.2 | (with_reducible refine Kd.C_alloc ?_ _) | (with_reducible refine Kd.C_drewN ?_ _) | (with_reducible refine Kd.C_drew ?_))); (case side2 => exact (Kd.R_reads' HO207.out).2.1); (case side3 => repeat (first | exact (Kd.R_reads' HO211.out).2.2 | (with_reducible refine Kd.C_alloc ?_ _) | (with_reducible refine Kd.C_drewN ?_ _) | (with_reducible refine Kd.C_drew ?_))); (case side4 => exact (Kd.R_reads' HO211.out).2.1); rintro e w' ⟨rfl, ⟨nd, rfl⟩⟩))
                                go_meet
                                case rel => exact ⟨_, (true), (by first | rfl | (simp; done) | (simp [*]; done)), H', ⟨by have := HJ4.out; have := HJ11.out; first | omega | exact Nat.le_refl _⟩, ⟨by (with_reducible repeat (first | apply Kd.V_alloc | apply Kd.V_drewN | apply Kd.V_drew)); exact Kd.V_mono HO188.out (fun _ hk => hk.1.2)⟩, ⟨by (with_reducible repeat (first | apply Kd.V_alloc | apply Kd.V_drewN | apply Kd.V_drew)); exact Kd.V_mono HO198.out (fun _ hk => hk.1.2)⟩, ⟨by (with_reducible repeat (first | apply Kd.R_alloc | apply Kd.R_drewN | apply Kd.R_drew)); exact Kd.R_mono HO207.out (fun _ hk => trivial)⟩, ⟨by repeat (first | (with_reducible first | exact HB.out | apply below_alloc | apply pw_below_drewN | apply below_drew1) | exact HB.out)⟩⟩)
                          · rw [if_neg c65] at H
                            have c65b0 : (t199 == t203) = false := beq_eq_false_iff_ne.mpr c65
                            have c65b1 : (t199 != t203) = true := bne_iff_ne.mpr c65
                            first
                            | exact absurd H (by first | decide | exact curtilagelaw11_FramesDo.j1_dead _ _ _ _ | exact curtilagelaw11_FramesDo.j2_dead _ _ _ _ _ _)
                            | skip
                            all_goals (
                              have H' := Aside0.mk H
                              clear H
                              obtain ⟨Ao94, co94, eo94⟩ := Kd.V_slice HO188.out
                              subst eo94
                              obtain ⟨Ao95, co95, eo95⟩ := Kd.V_slice HO193.out
                              subst eo95
                              go_wp2_with (first | ((with_reducible refine gate_callee (f := 18) rfl ?_); refine goesL_ (some 143) rfl rfl Try.func18 (by kernel_rfl) rfl #[.slice Ao94 t186.length co94, .slice Ao95 t191.length co95] rfl (by (try simp only [List.map_toArray, List.map_cons, List.map_nil]); first | done | rfl | (simp only [List.length_drop, List.length_take]; rfl)) ?_; (with_reducible refine (curtilageref11_Same.calls kj11 _ _ t186 _ _ t191 true _ ?side1 ?side2 ?side3 ?side4 A59.out).mono ?_); (case side1 => repeat (first | exact (Kd.V_reads' HO188.out).2.2 | (with_reducible refine Kd.C_alloc ?_ _) | (with_reducible refine Kd.C_drewN ?_ _) | (with_reducible refine Kd.C_drew ?_))); (case side2 => exact (Kd.V_reads' HO188.out).2.1); (case side3 => repeat (first | exact (Kd.V_reads' HO193.out).2.2 | (with_reducible refine Kd.C_alloc ?_ _) | (with_reducible refine Kd.C_drewN ?_ _) | (with_reducible refine Kd.C_drew ?_))); (case side4 => exact (Kd.V_reads' HO193.out).2.1); rintro e w' ⟨rfl, ⟨nd, rfl⟩⟩; refine ⟨_, rfl, ?_⟩; obtain ⟨Ao96, co96, eo96⟩ := Kd.V_slice HO198.out; subst eo96; obtain ⟨Ao97, co97, eo97⟩ := Kd.V_slice HO202.out; subst eo97) | (go_at_call 18; (with_reducible refine (curtilageref11_Same.calls kj11 _ _ t196 _ _ t200 true _ ?side1 ?side2 ?side3 ?side4 A63.out).mono ?_); (case side1 => repeat (first | exact (Kd.V_reads' HO198.out).2.2 | (with_reducible refine Kd.C_alloc ?_ _) | (with_reducible refine Kd.C_drewN ?_ _) | (with_reducible refine Kd.C_drew ?_))); (case side2 => exact (Kd.V_reads' HO198.out).2.1); (case side3 => repeat (first | exact (Kd.V_reads' HO202.out).2.2 | (with_reducible refine Kd.C_alloc ?_ _) | (with_reducible refine Kd.C_drewN ?_ _) | (with_reducible refine Kd.C_drew ?_))); (case side4 => exact (Kd.V_reads' HO202.out).2.1); rintro e w' ⟨rfl, ⟨nd, rfl⟩⟩))
                              go_meet
                              case rel => exact ⟨_, (true), (by first | rfl | (simp; done) | (simp [*]; done)), H', ⟨by have := HJ4.out; have := HJ11.out; first | omega | exact Nat.le_refl _⟩, ⟨by (with_reducible repeat (first | apply Kd.V_alloc | apply Kd.V_drewN | apply Kd.V_drew)); exact Kd.V_mono HO188.out (fun _ hk => hk.1.2)⟩, ⟨by (with_reducible repeat (first | apply Kd.V_alloc | apply Kd.V_drewN | apply Kd.V_drew)); exact Kd.V_mono HO198.out (fun _ hk => hk.1.2)⟩, ⟨by (with_reducible repeat (first | apply Kd.R_alloc | apply Kd.R_drewN | apply Kd.R_drew)); exact Kd.R_mono HO207.out (fun _ hk => trivial)⟩, ⟨by repeat (first | (with_reducible first | exact HB.out | apply below_alloc | apply pw_below_drewN | apply below_drew1) | exact HB.out)⟩⟩)
                        · replace c64 := Bool.eq_false_iff.mpr c64
                          subst c64
                          have H1 : (curtilagelaw11_FramesDo.j2 kj11 l0 a2 t186 t196 t204 true) = some true := by rw [if_neg (show ¬ (false = true) by decide)] at H; exact H
                          clear H
                          have H := H1
                          clear H1
                          first
                          | exact absurd H (by first | decide | exact curtilagelaw11_FramesDo.j1_dead _ _ _ _ | exact curtilagelaw11_FramesDo.j2_dead _ _ _ _ _ _)
                          | skip
                          all_goals (
                            have H' := Aside0.mk H
                            clear H
                            obtain ⟨Ao98, co98, eo98⟩ := Kd.V_slice HO188.out
                            subst eo98
                            obtain ⟨Ao99, co99, eo99⟩ := Kd.V_slice HO193.out
                            subst eo99
                            go_wp2_with (first | ((with_reducible refine gate_callee (f := 18) rfl ?_); refine goesL_ (some 143) rfl rfl Try.func18 (by kernel_rfl) rfl #[.slice Ao98 t186.length co98, .slice Ao99 t191.length co99] rfl (by (try simp only [List.map_toArray, List.map_cons, List.map_nil]); first | done | rfl | (simp only [List.length_drop, List.length_take]; rfl)) ?_; (with_reducible refine (curtilageref11_Same.calls kj11 _ _ t186 _ _ t191 true _ ?side1 ?side2 ?side3 ?side4 A59.out).mono ?_); (case side1 => repeat (first | exact (Kd.V_reads' HO188.out).2.2 | (with_reducible refine Kd.C_alloc ?_ _) | (with_reducible refine Kd.C_drewN ?_ _) | (with_reducible refine Kd.C_drew ?_))); (case side2 => exact (Kd.V_reads' HO188.out).2.1); (case side3 => repeat (first | exact (Kd.V_reads' HO193.out).2.2 | (with_reducible refine Kd.C_alloc ?_ _) | (with_reducible refine Kd.C_drewN ?_ _) | (with_reducible refine Kd.C_drew ?_))); (case side4 => exact (Kd.V_reads' HO193.out).2.1); rintro e w' ⟨rfl, ⟨nd, rfl⟩⟩; refine ⟨_, rfl, ?_⟩; obtain ⟨Ao100, co100, eo100⟩ := Kd.V_slice HO198.out; subst eo100; obtain ⟨Ao101, co101, eo101⟩ := Kd.V_slice HO202.out; subst eo101) | (go_at_call 18; (with_reducible refine (curtilageref11_Same.calls kj11 _ _ t196 _ _ t200 false _ ?side1 ?side2 ?side3 ?side4 A63.out).mono ?_); (case side1 => repeat (first | exact (Kd.V_reads' HO198.out).2.2 | (with_reducible refine Kd.C_alloc ?_ _) | (with_reducible refine Kd.C_drewN ?_ _) | (with_reducible refine Kd.C_drew ?_))); (case side2 => exact (Kd.V_reads' HO198.out).2.1); (case side3 => repeat (first | exact (Kd.V_reads' HO202.out).2.2 | (with_reducible refine Kd.C_alloc ?_ _) | (with_reducible refine Kd.C_drewN ?_ _) | (with_reducible refine Kd.C_drew ?_))); (case side4 => exact (Kd.V_reads' HO202.out).2.1); rintro e w' ⟨rfl, ⟨nd, rfl⟩⟩))
                            go_meet
                            case rel => exact ⟨_, (true), (by first | rfl | (simp; done) | (simp [*]; done)), H', ⟨by have := HJ4.out; have := HJ11.out; first | omega | exact Nat.le_refl _⟩, ⟨by (with_reducible repeat (first | apply Kd.V_alloc | apply Kd.V_drewN | apply Kd.V_drew)); exact Kd.V_mono HO188.out (fun _ hk => hk.1.2)⟩, ⟨by (with_reducible repeat (first | apply Kd.V_alloc | apply Kd.V_drewN | apply Kd.V_drew)); exact Kd.V_mono HO198.out (fun _ hk => hk.1.2)⟩, ⟨by (with_reducible repeat (first | apply Kd.R_alloc | apply Kd.R_drewN | apply Kd.R_drew)); exact Kd.R_mono HO207.out (fun _ hk => trivial)⟩, ⟨by repeat (first | (with_reducible first | exact HB.out | apply below_alloc | apply pw_below_drewN | apply below_drew1) | exact HB.out)⟩⟩)
                      · rw [if_neg c62] at H
                        have c62b0 : (t190 == t195) = false := beq_eq_false_iff_ne.mpr c62
                        have c62b1 : (t190 != t195) = true := bne_iff_ne.mpr c62
                        first
                        | exact absurd H (by first | decide | exact curtilagelaw11_FramesDo.j1_dead _ _ _ _ | exact curtilagelaw11_FramesDo.j2_dead _ _ _ _ _ _)
                        | skip
                        all_goals (
                          have H' := Aside0.mk H
                          clear H
                          obtain ⟨Ao102, co102, eo102⟩ := Kd.V_slice HO188.out
                          subst eo102
                          obtain ⟨Ao103, co103, eo103⟩ := Kd.V_slice HO193.out
                          subst eo103
                          go_wp2_with (first | ((with_reducible refine gate_callee (f := 18) rfl ?_); refine goesL_ (some 143) rfl rfl Try.func18 (by kernel_rfl) rfl #[.slice Ao102 t186.length co102, .slice Ao103 t191.length co103] rfl (by (try simp only [List.map_toArray, List.map_cons, List.map_nil]); first | done | rfl | (simp only [List.length_drop, List.length_take]; rfl)) ?_; (with_reducible refine (curtilageref11_Same.calls kj11 _ _ t186 _ _ t191 true _ ?side1 ?side2 ?side3 ?side4 A59.out).mono ?_); (case side1 => repeat (first | exact (Kd.V_reads' HO188.out).2.2 | (with_reducible refine Kd.C_alloc ?_ _) | (with_reducible refine Kd.C_drewN ?_ _) | (with_reducible refine Kd.C_drew ?_))); (case side2 => exact (Kd.V_reads' HO188.out).2.1); (case side3 => repeat (first | exact (Kd.V_reads' HO193.out).2.2 | (with_reducible refine Kd.C_alloc ?_ _) | (with_reducible refine Kd.C_drewN ?_ _) | (with_reducible refine Kd.C_drew ?_))); (case side4 => exact (Kd.V_reads' HO193.out).2.1); rintro e w' ⟨rfl, ⟨nd, rfl⟩⟩; refine ⟨_, rfl, ?_⟩))
                          go_meet
                          case rel => exact ⟨_, (true), (by first | rfl | (simp; done) | (simp [*]; done)), H', ⟨by have := HJ4.out; have := HJ11.out; first | omega | exact Nat.le_refl _⟩, ⟨by (with_reducible repeat (first | apply Kd.V_alloc | apply Kd.V_drewN | apply Kd.V_drew)); exact Kd.V_mono HO188.out (fun _ hk => hk.1.2)⟩, ⟨by (with_reducible repeat (first | apply Kd.V_alloc | apply Kd.V_drewN | apply Kd.V_drew)); exact Kd.V_mono HO198.out (fun _ hk => hk.1.2)⟩, ⟨by (with_reducible repeat (first | apply Kd.R_alloc | apply Kd.R_drewN | apply Kd.R_drew)); exact Kd.R_mono HO207.out (fun _ hk => trivial)⟩, ⟨by repeat (first | (with_reducible first | exact HB.out | apply below_alloc | apply pw_below_drewN | apply below_drew1) | exact HB.out)⟩⟩)
                    · rw [if_neg c61] at H
                      have c61b0 : (t189 == t194) = false := beq_eq_false_iff_ne.mpr c61
                      have c61b1 : (t189 != t194) = true := bne_iff_ne.mpr c61
                      (first | rw [c61b0] | (simp only [i64_w, i32_w]; rw [c61b0]) | skip)
                      first
                      | exact absurd H (by first | decide | exact curtilagelaw11_FramesDo.j1_dead _ _ _ _ | exact curtilagelaw11_FramesDo.j2_dead _ _ _ _ _ _)
                      | skip
                      all_goals (
                        have H' := Aside0.mk H
                        clear H
                        obtain ⟨Ao104, co104, eo104⟩ := Kd.V_slice HO188.out
                        subst eo104
                        obtain ⟨Ao105, co105, eo105⟩ := Kd.V_slice HO193.out
                        subst eo105
                        go_wp2_with (first | ((with_reducible refine gate_callee (f := 18) rfl ?_); refine goesL_ (some 143) rfl rfl Try.func18 (by kernel_rfl) rfl #[.slice Ao104 t186.length co104, .slice Ao105 t191.length co105] rfl (by (try simp only [List.map_toArray, List.map_cons, List.map_nil]); first | done | rfl | (simp only [List.length_drop, List.length_take]; rfl)) ?_; (with_reducible refine (curtilageref11_Same.calls kj11 _ _ t186 _ _ t191 true _ ?side1 ?side2 ?side3 ?side4 A59.out).mono ?_); (case side1 => repeat (first | exact (Kd.V_reads' HO188.out).2.2 | (with_reducible refine Kd.C_alloc ?_ _) | (with_reducible refine Kd.C_drewN ?_ _) | (with_reducible refine Kd.C_drew ?_))); (case side2 => exact (Kd.V_reads' HO188.out).2.1); (case side3 => repeat (first | exact (Kd.V_reads' HO193.out).2.2 | (with_reducible refine Kd.C_alloc ?_ _) | (with_reducible refine Kd.C_drewN ?_ _) | (with_reducible refine Kd.C_drew ?_))); (case side4 => exact (Kd.V_reads' HO193.out).2.1); rintro e w' ⟨rfl, ⟨nd, rfl⟩⟩; refine ⟨_, rfl, ?_⟩))
                        go_meet
                        case rel => exact ⟨_, (true), (by first | rfl | (simp; done) | (simp [*]; done)), H', ⟨by have := HJ4.out; have := HJ11.out; first | omega | exact Nat.le_refl _⟩, ⟨by (with_reducible repeat (first | apply Kd.V_alloc | apply Kd.V_drewN | apply Kd.V_drew)); exact Kd.V_mono HO188.out (fun _ hk => hk.1.2)⟩, ⟨by (with_reducible repeat (first | apply Kd.V_alloc | apply Kd.V_drewN | apply Kd.V_drew)); exact Kd.V_mono HO198.out (fun _ hk => hk.1.2)⟩, ⟨by (with_reducible repeat (first | apply Kd.R_alloc | apply Kd.R_drewN | apply Kd.R_drew)); exact Kd.R_mono HO207.out (fun _ hk => trivial)⟩, ⟨by repeat (first | (with_reducible first | exact HB.out | apply below_alloc | apply pw_below_drewN | apply below_drew1) | exact HB.out)⟩⟩)
                  · replace c60 := Bool.eq_false_iff.mpr c60
                    subst c60
                    have H1 : (curtilagelaw11_FramesDo.j2 kj11 l0 a2 t186 t196 t204 true) = some true := by rw [if_neg (show ¬ (false = true) by decide)] at H; exact H
                    clear H
                    have H := H1
                    clear H1
                    first
                    | exact absurd H (by first | decide | exact curtilagelaw11_FramesDo.j1_dead _ _ _ _ | exact curtilagelaw11_FramesDo.j2_dead _ _ _ _ _ _)
                    | skip
                    all_goals (
                      have H' := Aside0.mk H
                      clear H
                      obtain ⟨Ao106, co106, eo106⟩ := Kd.V_slice HO188.out
                      subst eo106
                      obtain ⟨Ao107, co107, eo107⟩ := Kd.V_slice HO193.out
                      subst eo107
                      go_wp2_with (first | ((with_reducible refine gate_callee (f := 18) rfl ?_); refine goesL_ (some 143) rfl rfl Try.func18 (by kernel_rfl) rfl #[.slice Ao106 t186.length co106, .slice Ao107 t191.length co107] rfl (by (try simp only [List.map_toArray, List.map_cons, List.map_nil]); first | done | rfl | (simp only [List.length_drop, List.length_take]; rfl)) ?_; (with_reducible refine (curtilageref11_Same.calls kj11 _ _ t186 _ _ t191 false _ ?side1 ?side2 ?side3 ?side4 A59.out).mono ?_); (case side1 => repeat (first | exact (Kd.V_reads' HO188.out).2.2 | (with_reducible refine Kd.C_alloc ?_ _) | (with_reducible refine Kd.C_drewN ?_ _) | (with_reducible refine Kd.C_drew ?_))); (case side2 => exact (Kd.V_reads' HO188.out).2.1); (case side3 => repeat (first | exact (Kd.V_reads' HO193.out).2.2 | (with_reducible refine Kd.C_alloc ?_ _) | (with_reducible refine Kd.C_drewN ?_ _) | (with_reducible refine Kd.C_drew ?_))); (case side4 => exact (Kd.V_reads' HO193.out).2.1); rintro e w' ⟨rfl, ⟨nd, rfl⟩⟩; refine ⟨_, rfl, ?_⟩))
                      go_meet
                      case rel => exact ⟨_, (true), (by first | rfl | (simp; done) | (simp [*]; done)), H', ⟨by have := HJ4.out; have := HJ11.out; first | omega | exact Nat.le_refl _⟩, ⟨by (with_reducible repeat (first | apply Kd.V_alloc | apply Kd.V_drewN | apply Kd.V_drew)); exact Kd.V_mono HO188.out (fun _ hk => hk.1.2)⟩, ⟨by (with_reducible repeat (first | apply Kd.V_alloc | apply Kd.V_drewN | apply Kd.V_drew)); exact Kd.V_mono HO198.out (fun _ hk => hk.1.2)⟩, ⟨by (with_reducible repeat (first | apply Kd.R_alloc | apply Kd.R_drewN | apply Kd.R_drew)); exact Kd.R_mono HO207.out (fun _ hk => trivial)⟩, ⟨by repeat (first | (with_reducible first | exact HB.out | apply below_alloc | apply pw_below_drewN | apply below_drew1) | exact HB.out)⟩⟩)
                case rest =>
                  clear HC50
                  try clear c1
                  try clear c2
                  try clear p2
                  try clear c3
                  try clear c4
                  try clear c5
                  try clear c6
                  try clear c6b0
                  try clear c6b1
                  try clear c7
                  try clear c8
                  try clear c10
                  try clear c11
                  try clear c13
                  try clear c14
                  try clear c15
                  try clear c16
                  try clear c17
                  try clear c17b0
                  try clear c17b1
                  try clear c17b2
                  try clear c18
                  try clear c19
                  try clear c20
                  try clear c21
                  try clear c22
                  try clear c22b0
                  try clear c22b1
                  try clear c22b2
                  try clear c26
                  try clear c28
                  try clear c39
                  try clear c41
                  try clear c60
                  try clear c61
                  try clear c61b0
                  try clear c61b1
                  try clear c62
                  try clear c62b0
                  try clear c62b1
                  try clear c64
                  try clear c65
                  try clear c65b0
                  try clear c65b1
                  try clear c67
                  try clear c68
                  try clear c68b0
                  try clear c68b1
                  try clear c69
                  try clear c69b0
                  try clear c69b1
                  try clear p2
                  obtain ⟨kq, x186_49, rfl, HA, HJ49, HO_13, HO_19, HO_23, HB⟩ := hcut
                  cases kq with
                  | zero => exact absurd HA.out (by simp [curtilagelaw11_FramesDo.j2])
                  | succ kj49 =>
                    have H := HA.out
                    clear HA
                    simp only [curtilagelaw11_FramesDo.j2] at H
                    by_cases c108 : x186_49 = true
                    · subst c108
                      have H1 : (some false) = some true := by rw [if_pos rfl] at H; exact H
                      clear H
                      have H := H1
                      clear H1
                      first
                      | exact absurd H (by first | decide | exact curtilagelaw11_FramesDo.j1_dead _ _ _ _ | exact curtilagelaw11_FramesDo.j2_dead _ _ _ _ _ _)
                      | skip
                      all_goals (
                        obtain rfl := Option.some.inj H
                        go_wp2
                        go_ret
                        exact ⟨by first | rfl | (simp [errW_none, errW_some] <;> rfl) | (simp [*, errW_none, errW_some] <;> rfl), by repeat (first | (with_reducible first | exact HB.out | apply below_alloc | apply pw_below_drewN | apply below_drew1) | exact HB.out)⟩)
                    · replace c108 := Bool.eq_false_iff.mpr c108
                      subst c108
                      have H1 : ((frames_Free.f l0).bind fun t219 => ((curtilageref11_Free.f kj49 l0).bind fun t220 => (if t219 = t220 then ((frames_Held.f l0 a2).bind fun t221 => ((curtilageref11_Held.f kj49 l0 a2).bind fun t222 => (if t221 = t222 then ((curtilageref11_Fit.f kj49 t186).bind fun t223 => (if t223 = true then ((curtilageref11_Fit.f kj49 t196).bind fun t224 => (if t224 = true then ((curtilageref11_Fit.f kj49 t204).bind fun t225 => (if t225 = true then ((curtilagelaw11_awake.f).bind fun t226 => (some t226)) else (some false))) else (some false))) else (some false))) else (some false)))) else (some false)))) = some true := by rw [if_neg (show ¬ (false = true) by decide)] at H; exact H
                      clear H
                      have H := H1
                      clear H1
                      replace H := Option.bind_eq_some_iff.mp H
                      obtain ⟨t219, A1090, H⟩ := H
                      replace H : ((curtilageref11_Free.f kj49 l0).bind fun t220 => (if t219 = t220 then ((frames_Held.f l0 a2).bind fun t221 => ((curtilageref11_Held.f kj49 l0 a2).bind fun t222 => (if t221 = t222 then ((curtilageref11_Fit.f kj49 t186).bind fun t223 => (if t223 = true then ((curtilageref11_Fit.f kj49 t196).bind fun t224 => (if t224 = true then ((curtilageref11_Fit.f kj49 t204).bind fun t225 => (if t225 = true then ((curtilagelaw11_awake.f).bind fun t226 => (some t226)) else (some false))) else (some false))) else (some false))) else (some false)))) else (some false))) = some true := H
                      have A109 := Aside0.mk A1090
                      clear A1090
                      replace H := Option.bind_eq_some_iff.mp H
                      obtain ⟨t220, A1100, H⟩ := H
                      replace H : (if t219 = t220 then ((frames_Held.f l0 a2).bind fun t221 => ((curtilageref11_Held.f kj49 l0 a2).bind fun t222 => (if t221 = t222 then ((curtilageref11_Fit.f kj49 t186).bind fun t223 => (if t223 = true then ((curtilageref11_Fit.f kj49 t196).bind fun t224 => (if t224 = true then ((curtilageref11_Fit.f kj49 t204).bind fun t225 => (if t225 = true then ((curtilagelaw11_awake.f).bind fun t226 => (some t226)) else (some false))) else (some false))) else (some false))) else (some false)))) else (some false)) = some true := H
                      have A110 := Aside0.mk A1100
                      clear A1100
                      by_cases c111 : t219 = t220
                      · rw [if_pos c111] at H
                        have c111b0 : (t219 == t220) = true := beq_iff_eq.mpr c111
                        have c111b1 : (t219 != t220) = false := bne_eq_false_iff_eq.mpr c111
                        clear c111
                        replace H := Option.bind_eq_some_iff.mp H
                        obtain ⟨t221, A1120, H⟩ := H
                        replace H : ((curtilageref11_Held.f kj49 l0 a2).bind fun t222 => (if t221 = t222 then ((curtilageref11_Fit.f kj49 t186).bind fun t223 => (if t223 = true then ((curtilageref11_Fit.f kj49 t196).bind fun t224 => (if t224 = true then ((curtilageref11_Fit.f kj49 t204).bind fun t225 => (if t225 = true then ((curtilagelaw11_awake.f).bind fun t226 => (some t226)) else (some false))) else (some false))) else (some false))) else (some false))) = some true := H
                        have A112 := Aside0.mk A1120
                        clear A1120
                        replace H := Option.bind_eq_some_iff.mp H
                        obtain ⟨t222, A1130, H⟩ := H
                        replace H : (if t221 = t222 then ((curtilageref11_Fit.f kj49 t186).bind fun t223 => (if t223 = true then ((curtilageref11_Fit.f kj49 t196).bind fun t224 => (if t224 = true then ((curtilageref11_Fit.f kj49 t204).bind fun t225 => (if t225 = true then ((curtilagelaw11_awake.f).bind fun t226 => (some t226)) else (some false))) else (some false))) else (some false))) else (some false)) = some true := H
                        have A113 := Aside0.mk A1130
                        clear A1130
                        by_cases c114 : t221 = t222
                        · rw [if_pos c114] at H
                          have c114b0 : (t221 == t222) = true := beq_iff_eq.mpr c114
                          have c114b1 : (t221 != t222) = false := bne_eq_false_iff_eq.mpr c114
                          clear c114
                          replace H := Option.bind_eq_some_iff.mp H
                          obtain ⟨t223, A1150, H⟩ := H
                          replace H : (if t223 = true then ((curtilageref11_Fit.f kj49 t196).bind fun t224 => (if t224 = true then ((curtilageref11_Fit.f kj49 t204).bind fun t225 => (if t225 = true then ((curtilagelaw11_awake.f).bind fun t226 => (some t226)) else (some false))) else (some false))) else (some false)) = some true := H
                          have A115 := Aside0.mk A1150
                          clear A1150
                          by_cases c116 : t223 = true
                          · subst c116
                            have H1 : ((curtilageref11_Fit.f kj49 t196).bind fun t224 => (if t224 = true then ((curtilageref11_Fit.f kj49 t204).bind fun t225 => (if t225 = true then ((curtilagelaw11_awake.f).bind fun t226 => (some t226)) else (some false))) else (some false))) = some true := by rw [if_pos rfl] at H; exact H
                            clear H
                            have H := H1
                            clear H1
                            replace H := Option.bind_eq_some_iff.mp H
                            obtain ⟨t224, A1170, H⟩ := H
                            replace H : (if t224 = true then ((curtilageref11_Fit.f kj49 t204).bind fun t225 => (if t225 = true then ((curtilagelaw11_awake.f).bind fun t226 => (some t226)) else (some false))) else (some false)) = some true := H
                            have A117 := Aside0.mk A1170
                            clear A1170
                            by_cases c118 : t224 = true
                            · subst c118
                              have H1 : ((curtilageref11_Fit.f kj49 t204).bind fun t225 => (if t225 = true then ((curtilagelaw11_awake.f).bind fun t226 => (some t226)) else (some false))) = some true := by rw [if_pos rfl] at H; exact H
                              clear H
                              have H := H1
                              clear H1
                              replace H := Option.bind_eq_some_iff.mp H
                              obtain ⟨t225, A1190, H⟩ := H
                              replace H : (if t225 = true then ((curtilagelaw11_awake.f).bind fun t226 => (some t226)) else (some false)) = some true := H
                              have A119 := Aside0.mk A1190
                              clear A1190
                              by_cases c120 : t225 = true
                              · subst c120
                                have H1 : ((curtilagelaw11_awake.f).bind fun t226 => (some t226)) = some true := by rw [if_pos rfl] at H; exact H
                                clear H
                                have H := H1
                                clear H1
                                replace H := Option.bind_eq_some_iff.mp H
                                obtain ⟨t226, A1210, H⟩ := H
                                replace H : (some t226) = some true := H
                                have A121 := Aside0.mk A1210
                                clear A1210
                                first
                                | exact absurd H (by first | decide | exact curtilagelaw11_FramesDo.j1_dead _ _ _ _ | exact curtilagelaw11_FramesDo.j2_dead _ _ _ _ _ _)
                                | skip
                                all_goals (
                                  obtain rfl := Option.some.inj H
                                  go_wp2_with (first | ((with_reducible refine gate_callee (f := 9) rfl ?_); refine goesL_ (some 188) rfl rfl Try.func9 (by kernel_rfl) rfl #[.slice A0 l0.length c0] rfl (by (try simp only [List.map_toArray, List.map_cons, List.map_nil]); first | done | rfl | (simp only [List.length_drop, List.length_take]; rfl)) ?_; (with_reducible refine (frames_Free.calls _ _ l0 t219 _ ?side1 ?side2 A109.out).mono ?_); (case side1 => repeat (first | exact (Kd.C_below HR0.out HB.out) | (with_reducible refine Kd.C_alloc ?_ _) | (with_reducible refine Kd.C_drewN ?_ _) | (with_reducible refine Kd.C_drew ?_))); (case side2 => exact HC0.out); rintro e w122 ⟨rfl, hb⟩; refine ⟨_, rfl, ?_⟩; have n0_ := Aside0.mk (Kd.V_below (by (with_reducible repeat (first | apply Kd.V_alloc | apply Kd.V_drewN | apply Kd.V_drew)); exact HO_13.out) hb); have n1_ := Aside0.mk (Kd.V_below (by (with_reducible repeat (first | apply Kd.V_alloc | apply Kd.V_drewN | apply Kd.V_drew)); exact HO_19.out) hb); have n2_ := Aside0.mk (Kd.R_below (by (with_reducible repeat (first | apply Kd.R_alloc | apply Kd.R_drewN | apply Kd.R_drew)); exact HO_23.out) hb); have n3_ := Aside0.mk (below_step (by repeat (first | (with_reducible first | exact HB.out | apply below_alloc | apply pw_below_drewN | apply below_drew1) | exact HB.out)) hb); clear HO_13; clear HO_19; clear HO_23; clear HB; have HO_13 := n0_; have HO_19 := n1_; have HO_23 := n2_; have HB := n3_; clear n0_ n1_ n2_ n3_; (try clear hb); (try clear hb2); (try clear hk); (try clear hi)) | ((with_reducible refine gate_callee (f := 23) rfl ?_); refine goesL_ (some 190) rfl rfl Try.func23 (by kernel_rfl) rfl #[.slice A0 l0.length c0] rfl (by (try simp only [List.map_toArray, List.map_cons, List.map_nil]); first | done | rfl | (simp only [List.length_drop, List.length_take]; rfl)) ?_; (with_reducible refine (curtilageref11_Free.calls kj49 _ _ l0 t220 _ ?side1 ?side2 A110.out).mono ?_); (case side1 => repeat (first | exact (Kd.C_below HR0.out HB.out) | (with_reducible refine Kd.C_alloc ?_ _) | (with_reducible refine Kd.C_drewN ?_ _) | (with_reducible refine Kd.C_drew ?_))); (case side2 => exact HC0.out); rintro e w' ⟨rfl, ⟨nd, rfl⟩⟩; refine ⟨_, rfl, ?_⟩) | (go_at_call 12; (with_reducible refine (frames_Held.calls _ _ l0 a2 t221 _ ?side1 ?side2 A112.out).mono ?_); (case side1 => repeat (first | exact (Kd.C_below HR0.out (by repeat (first | (with_reducible first | exact HB.out | apply below_alloc | apply pw_below_drewN | apply below_drew1) | exact HB.out))) | (with_reducible refine Kd.C_alloc ?_ _) | (with_reducible refine Kd.C_drewN ?_ _) | (with_reducible refine Kd.C_drew ?_))); (case side2 => exact HC0.out); rintro e w123 ⟨rfl, hb⟩; have n0_ := Aside0.mk (Kd.V_below (by (with_reducible repeat (first | apply Kd.V_alloc | apply Kd.V_drewN | apply Kd.V_drew)); exact HO_13.out) hb); have n1_ := Aside0.mk (Kd.V_below (by (with_reducible repeat (first | apply Kd.V_alloc | apply Kd.V_drewN | apply Kd.V_drew)); exact HO_19.out) hb); have n2_ := Aside0.mk (Kd.R_below (by (with_reducible repeat (first | apply Kd.R_alloc | apply Kd.R_drewN | apply Kd.R_drew)); exact HO_23.out) hb); have n3_ := Aside0.mk (below_step (by repeat (first | (with_reducible first | exact HB.out | apply below_alloc | apply pw_below_drewN | apply below_drew1) | exact HB.out)) hb); clear HO_13; clear HO_19; clear HO_23; clear HB; have HO_13 := n0_; have HO_19 := n1_; have HO_23 := n2_; have HB := n3_; clear n0_ n1_ n2_ n3_; (try clear hb); (try clear hb2); (try clear hk); (try clear hi)) | (go_at_call 24; (with_reducible refine (curtilageref11_Held.calls kj49 _ _ l0 a2 t222 _ ?side1 ?side2 A113.out).mono ?_); (case side1 => repeat (first | exact (Kd.C_below HR0.out HB.out) | (with_reducible refine Kd.C_alloc ?_ _) | (with_reducible refine Kd.C_drewN ?_ _) | (with_reducible refine Kd.C_drew ?_))); (case side2 => exact HC0.out); rintro e w124 ⟨rfl, hb⟩; have n0_ := Aside0.mk (Kd.V_below (by (with_reducible repeat (first | apply Kd.V_alloc | apply Kd.V_drewN | apply Kd.V_drew)); exact HO_13.out) hb); have n1_ := Aside0.mk (Kd.V_below (by (with_reducible repeat (first | apply Kd.V_alloc | apply Kd.V_drewN | apply Kd.V_drew)); exact HO_19.out) hb); have n2_ := Aside0.mk (Kd.R_below (by (with_reducible repeat (first | apply Kd.R_alloc | apply Kd.R_drewN | apply Kd.R_drew)); exact HO_23.out) hb); have n3_ := Aside0.mk (below_step (by repeat (first | (with_reducible first | exact HB.out | apply below_alloc | apply pw_below_drewN | apply below_drew1) | exact HB.out)) hb); clear HO_13; clear HO_19; clear HO_23; clear HB; have HO_13 := n0_; have HO_19 := n1_; have HO_23 := n2_; have HB := n3_; clear n0_ n1_ n2_ n3_; (try clear hb); (try clear hb2); (try clear hk); (try clear hi); obtain ⟨Ao125, co125, eo125⟩ := Kd.V_slice HO_13.out; subst eo125) | (go_at_call 14; (with_reducible refine (curtilageref11_Fit.calls kj49 _ _ t186 true _ ?side1 ?side2 A115.out).mono ?_); (case side1 => repeat (first | exact (Kd.V_reads' HO_13.out).2.2 | (with_reducible refine Kd.C_alloc ?_ _) | (with_reducible refine Kd.C_drewN ?_ _) | (with_reducible refine Kd.C_drew ?_))); (case side2 => exact (Kd.V_reads' HO_13.out).2.1); rintro e w126 ⟨rfl, hb⟩; have n0_ := Aside0.mk (Kd.V_below (by (with_reducible repeat (first | apply Kd.V_alloc | apply Kd.V_drewN | apply Kd.V_drew)); exact HO_13.out) hb); have n1_ := Aside0.mk (Kd.V_below (by (with_reducible repeat (first | apply Kd.V_alloc | apply Kd.V_drewN | apply Kd.V_drew)); exact HO_19.out) hb); have n2_ := Aside0.mk (Kd.R_below (by (with_reducible repeat (first | apply Kd.R_alloc | apply Kd.R_drewN | apply Kd.R_drew)); exact HO_23.out) hb); have n3_ := Aside0.mk (below_step (by repeat (first | (with_reducible first | exact HB.out | apply below_alloc | apply pw_below_drewN | apply below_drew1) | exact HB.out)) hb); clear HO_13; clear HO_19; clear HO_23; clear HB; have HO_13 := n0_; have HO_19 := n1_; have HO_23 := n2_; have HB := n3_; clear n0_ n1_ n2_ n3_; (try clear hb); (try clear hb2); (try clear hk); (try clear hi); obtain ⟨Ao127, co127, eo127⟩ := Kd.V_slice HO_19.out; subst eo127) | (go_at_call 14; (with_reducible refine (curtilageref11_Fit.calls kj49 _ _ t196 true _ ?side1 ?side2 A117.out).mono ?_); (case side1 => repeat (first | exact (Kd.V_reads' HO_19.out).2.2 | (with_reducible refine Kd.C_alloc ?_ _) | (with_reducible refine Kd.C_drewN ?_ _) | (with_reducible refine Kd.C_drew ?_))); (case side2 => exact (Kd.V_reads' HO_19.out).2.1); rintro e w128 ⟨rfl, hb⟩; have n0_ := Aside0.mk (Kd.V_below (by (with_reducible repeat (first | apply Kd.V_alloc | apply Kd.V_drewN | apply Kd.V_drew)); exact HO_13.out) hb); have n1_ := Aside0.mk (Kd.V_below (by (with_reducible repeat (first | apply Kd.V_alloc | apply Kd.V_drewN | apply Kd.V_drew)); exact HO_19.out) hb); have n2_ := Aside0.mk (Kd.R_below (by (with_reducible repeat (first | apply Kd.R_alloc | apply Kd.R_drewN | apply Kd.R_drew)); exact HO_23.out) hb); have n3_ := Aside0.mk (below_step (by repeat (first | (with_reducible first | exact HB.out | apply below_alloc | apply pw_below_drewN | apply below_drew1) | exact HB.out)) hb); clear HO_13; clear HO_19; clear HO_23; clear HB; have HO_13 := n0_; have HO_19 := n1_; have HO_23 := n2_; have HB := n3_; clear n0_ n1_ n2_ n3_; (try clear hb); (try clear hb2); (try clear hk); (try clear hi); obtain ⟨Ao129, co129, eo129⟩ := Kd.R_slice HO_23.out; subst eo129) | (go_at_call 14; (with_reducible refine (curtilageref11_Fit.calls kj49 _ _ t204 true _ ?side1 ?side2 A119.out).mono ?_); (case side1 => repeat (first | exact (Kd.R_reads' HO_23.out).2.2 | (with_reducible refine Kd.C_alloc ?_ _) | (with_reducible refine Kd.C_drewN ?_ _) | (with_reducible refine Kd.C_drew ?_))); (case side2 => exact (Kd.R_reads' HO_23.out).2.1); rintro e w130 ⟨rfl, hb⟩; have n0_ := Aside0.mk (Kd.V_below (by (with_reducible repeat (first | apply Kd.V_alloc | apply Kd.V_drewN | apply Kd.V_drew)); exact HO_13.out) hb); have n1_ := Aside0.mk (Kd.V_below (by (with_reducible repeat (first | apply Kd.V_alloc | apply Kd.V_drewN | apply Kd.V_drew)); exact HO_19.out) hb); have n2_ := Aside0.mk (Kd.R_below (by (with_reducible repeat (first | apply Kd.R_alloc | apply Kd.R_drewN | apply Kd.R_drew)); exact HO_23.out) hb); have n3_ := Aside0.mk (below_step (by repeat (first | (with_reducible first | exact HB.out | apply below_alloc | apply pw_below_drewN | apply below_drew1) | exact HB.out)) hb); clear HO_13; clear HO_19; clear HO_23; clear HB; have HO_13 := n0_; have HO_19 := n1_; have HO_23 := n2_; have HB := n3_; clear n0_ n1_ n2_ n3_; (try clear hb); (try clear hb2); (try clear hk); (try clear hi)) | (go_at_call 6; (with_reducible refine (curtilagelaw11_awake.calls  true _ A121.out).mono ?_); rintro e w131 ⟨rfl, hb⟩; have n0_ := Aside0.mk (Kd.V_below (by (with_reducible repeat (first | apply Kd.V_alloc | apply Kd.V_drewN | apply Kd.V_drew)); exact HO_13.out) hb); have n1_ := Aside0.mk (Kd.V_below (by (with_reducible repeat (first | apply Kd.V_alloc | apply Kd.V_drewN | apply Kd.V_drew)); exact HO_19.out) hb); have n2_ := Aside0.mk (Kd.R_below (by (with_reducible repeat (first | apply Kd.R_alloc | apply Kd.R_drewN | apply Kd.R_drew)); exact HO_23.out) hb); have n3_ := Aside0.mk (below_step (by repeat (first | (with_reducible first | exact HB.out | apply below_alloc | apply pw_below_drewN | apply below_drew1) | exact HB.out)) hb); clear HO_13; clear HO_19; clear HO_23; clear HB; have HO_13 := n0_; have HO_19 := n1_; have HO_23 := n2_; have HB := n3_; clear n0_ n1_ n2_ n3_; (try clear hb); (try clear hb2); (try clear hk); (try clear hi)))
                                  go_ret
                                  exact ⟨by first | rfl | (simp [errW_none, errW_some] <;> rfl) | (simp [*, errW_none, errW_some] <;> rfl), by repeat (first | (with_reducible first | exact HB.out | apply below_alloc | apply pw_below_drewN | apply below_drew1) | exact HB.out)⟩)
                              · replace c120 := Bool.eq_false_iff.mpr c120
                                subst c120
                                have H1 : (some false) = some true := by rw [if_neg (show ¬ (false = true) by decide)] at H; exact H
                                clear H
                                have H := H1
                                clear H1
                                first
                                | exact absurd H (by first | decide | exact curtilagelaw11_FramesDo.j1_dead _ _ _ _ | exact curtilagelaw11_FramesDo.j2_dead _ _ _ _ _ _)
                                | skip
                                all_goals (
                                  obtain rfl := Option.some.inj H
                                  go_wp2_with (first | ((with_reducible refine gate_callee (f := 9) rfl ?_); refine goesL_ (some 188) rfl rfl Try.func9 (by kernel_rfl) rfl #[.slice A0 l0.length c0] rfl (by (try simp only [List.map_toArray, List.map_cons, List.map_nil]); first | done | rfl | (simp only [List.length_drop, List.length_take]; rfl)) ?_; (with_reducible refine (frames_Free.calls _ _ l0 t219 _ ?side1 ?side2 A109.out).mono ?_); (case side1 => repeat (first | exact (Kd.C_below HR0.out HB.out) | (with_reducible refine Kd.C_alloc ?_ _) | (with_reducible refine Kd.C_drewN ?_ _) | (with_reducible refine Kd.C_drew ?_))); (case side2 => exact HC0.out); rintro e w132 ⟨rfl, hb⟩; refine ⟨_, rfl, ?_⟩; have n0_ := Aside0.mk (Kd.V_below (by (with_reducible repeat (first | apply Kd.V_alloc | apply Kd.V_drewN | apply Kd.V_drew)); exact HO_13.out) hb); have n1_ := Aside0.mk (Kd.V_below (by (with_reducible repeat (first | apply Kd.V_alloc | apply Kd.V_drewN | apply Kd.V_drew)); exact HO_19.out) hb); have n2_ := Aside0.mk (Kd.R_below (by (with_reducible repeat (first | apply Kd.R_alloc | apply Kd.R_drewN | apply Kd.R_drew)); exact HO_23.out) hb); have n3_ := Aside0.mk (below_step (by repeat (first | (with_reducible first | exact HB.out | apply below_alloc | apply pw_below_drewN | apply below_drew1) | exact HB.out)) hb); clear HO_13; clear HO_19; clear HO_23; clear HB; have HO_13 := n0_; have HO_19 := n1_; have HO_23 := n2_; have HB := n3_; clear n0_ n1_ n2_ n3_; (try clear hb); (try clear hb2); (try clear hk); (try clear hi)) | ((with_reducible refine gate_callee (f := 23) rfl ?_); refine goesL_ (some 190) rfl rfl Try.func23 (by kernel_rfl) rfl #[.slice A0 l0.length c0] rfl (by (try simp only [List.map_toArray, List.map_cons, List.map_nil]); first | done | rfl | (simp only [List.length_drop, List.length_take]; rfl)) ?_; (with_reducible refine (curtilageref11_Free.calls kj49 _ _ l0 t220 _ ?side1 ?side2 A110.out).mono ?_); (case side1 => repeat (first | exact (Kd.C_below HR0.out HB.out) | (with_reducible refine Kd.C_alloc ?_ _) | (with_reducible refine Kd.C_drewN ?_ _) | (with_reducible refine Kd.C_drew ?_))); (case side2 => exact HC0.out); rintro e w' ⟨rfl, ⟨nd, rfl⟩⟩; refine ⟨_, rfl, ?_⟩) | (go_at_call 12; (with_reducible refine (frames_Held.calls _ _ l0 a2 t221 _ ?side1 ?side2 A112.out).mono ?_); (case side1 => repeat (first | exact (Kd.C_below HR0.out (by repeat (first | (with_reducible first | exact HB.out | apply below_alloc | apply pw_below_drewN | apply below_drew1) | exact HB.out))) | (with_reducible refine Kd.C_alloc ?_ _) | (with_reducible refine Kd.C_drewN ?_ _) | (with_reducible refine Kd.C_drew ?_))); (case side2 => exact HC0.out); rintro e w133 ⟨rfl, hb⟩; have n0_ := Aside0.mk (Kd.V_below (by (with_reducible repeat (first | apply Kd.V_alloc | apply Kd.V_drewN | apply Kd.V_drew)); exact HO_13.out) hb); have n1_ := Aside0.mk (Kd.V_below (by (with_reducible repeat (first | apply Kd.V_alloc | apply Kd.V_drewN | apply Kd.V_drew)); exact HO_19.out) hb); have n2_ := Aside0.mk (Kd.R_below (by (with_reducible repeat (first | apply Kd.R_alloc | apply Kd.R_drewN | apply Kd.R_drew)); exact HO_23.out) hb); have n3_ := Aside0.mk (below_step (by repeat (first | (with_reducible first | exact HB.out | apply below_alloc | apply pw_below_drewN | apply below_drew1) | exact HB.out)) hb); clear HO_13; clear HO_19; clear HO_23; clear HB; have HO_13 := n0_; have HO_19 := n1_; have HO_23 := n2_; have HB := n3_; clear n0_ n1_ n2_ n3_; (try clear hb); (try clear hb2); (try clear hk); (try clear hi)) | (go_at_call 24; (with_reducible refine (curtilageref11_Held.calls kj49 _ _ l0 a2 t222 _ ?side1 ?side2 A113.out).mono ?_); (case side1 => repeat (first | exact (Kd.C_below HR0.out HB.out) | (with_reducible refine Kd.C_alloc ?_ _) | (with_reducible refine Kd.C_drewN ?_ _) | (with_reducible refine Kd.C_drew ?_))); (case side2 => exact HC0.out); rintro e w134 ⟨rfl, hb⟩; have n0_ := Aside0.mk (Kd.V_below (by (with_reducible repeat (first | apply Kd.V_alloc | apply Kd.V_drewN | apply Kd.V_drew)); exact HO_13.out) hb); have n1_ := Aside0.mk (Kd.V_below (by (with_reducible repeat (first | apply Kd.V_alloc | apply Kd.V_drewN | apply Kd.V_drew)); exact HO_19.out) hb); have n2_ := Aside0.mk (Kd.R_below (by (with_reducible repeat (first | apply Kd.R_alloc | apply Kd.R_drewN | apply Kd.R_drew)); exact HO_23.out) hb); have n3_ := Aside0.mk (below_step (by repeat (first | (with_reducible first | exact HB.out | apply below_alloc | apply pw_below_drewN | apply below_drew1) | exact HB.out)) hb); clear HO_13; clear HO_19; clear HO_23; clear HB; have HO_13 := n0_; have HO_19 := n1_; have HO_23 := n2_; have HB := n3_; clear n0_ n1_ n2_ n3_; (try clear hb); (try clear hb2); (try clear hk); (try clear hi); obtain ⟨Ao135, co135, eo135⟩ := Kd.V_slice HO_13.out; subst eo135) | (go_at_call 14; (with_reducible refine (curtilageref11_Fit.calls kj49 _ _ t186 true _ ?side1 ?side2 A115.out).mono ?_); (case side1 => repeat (first | exact (Kd.V_reads' HO_13.out).2.2 | (with_reducible refine Kd.C_alloc ?_ _) | (with_reducible refine Kd.C_drewN ?_ _) | (with_reducible refine Kd.C_drew ?_))); (case side2 => exact (Kd.V_reads' HO_13.out).2.1); rintro e w136 ⟨rfl, hb⟩; have n0_ := Aside0.mk (Kd.V_below (by (with_reducible repeat (first | apply Kd.V_alloc | apply Kd.V_drewN | apply Kd.V_drew)); exact HO_13.out) hb); have n1_ := Aside0.mk (Kd.V_below (by (with_reducible repeat (first | apply Kd.V_alloc | apply Kd.V_drewN | apply Kd.V_drew)); exact HO_19.out) hb); have n2_ := Aside0.mk (Kd.R_below (by (with_reducible repeat (first | apply Kd.R_alloc | apply Kd.R_drewN | apply Kd.R_drew)); exact HO_23.out) hb); have n3_ := Aside0.mk (below_step (by repeat (first | (with_reducible first | exact HB.out | apply below_alloc | apply pw_below_drewN | apply below_drew1) | exact HB.out)) hb); clear HO_13; clear HO_19; clear HO_23; clear HB; have HO_13 := n0_; have HO_19 := n1_; have HO_23 := n2_; have HB := n3_; clear n0_ n1_ n2_ n3_; (try clear hb); (try clear hb2); (try clear hk); (try clear hi); obtain ⟨Ao137, co137, eo137⟩ := Kd.V_slice HO_19.out; subst eo137) | (go_at_call 14; (with_reducible refine (curtilageref11_Fit.calls kj49 _ _ t196 true _ ?side1 ?side2 A117.out).mono ?_); (case side1 => repeat (first | exact (Kd.V_reads' HO_19.out).2.2 | (with_reducible refine Kd.C_alloc ?_ _) | (with_reducible refine Kd.C_drewN ?_ _) | (with_reducible refine Kd.C_drew ?_))); (case side2 => exact (Kd.V_reads' HO_19.out).2.1); rintro e w138 ⟨rfl, hb⟩; have n0_ := Aside0.mk (Kd.V_below (by (with_reducible repeat (first | apply Kd.V_alloc | apply Kd.V_drewN | apply Kd.V_drew)); exact HO_13.out) hb); have n1_ := Aside0.mk (Kd.V_below (by (with_reducible repeat (first | apply Kd.V_alloc | apply Kd.V_drewN | apply Kd.V_drew)); exact HO_19.out) hb); have n2_ := Aside0.mk (Kd.R_below (by (with_reducible repeat (first | apply Kd.R_alloc | apply Kd.R_drewN | apply Kd.R_drew)); exact HO_23.out) hb); have n3_ := Aside0.mk (below_step (by repeat (first | (with_reducible first | exact HB.out | apply below_alloc | apply pw_below_drewN | apply below_drew1) | exact HB.out)) hb); clear HO_13; clear HO_19; clear HO_23; clear HB; have HO_13 := n0_; have HO_19 := n1_; have HO_23 := n2_; have HB := n3_; clear n0_ n1_ n2_ n3_; (try clear hb); (try clear hb2); (try clear hk); (try clear hi); obtain ⟨Ao139, co139, eo139⟩ := Kd.R_slice HO_23.out; subst eo139) | (go_at_call 14; (with_reducible refine (curtilageref11_Fit.calls kj49 _ _ t204 false _ ?side1 ?side2 A119.out).mono ?_); (case side1 => repeat (first | exact (Kd.R_reads' HO_23.out).2.2 | (with_reducible refine Kd.C_alloc ?_ _) | (with_reducible refine Kd.C_drewN ?_ _) | (with_reducible refine Kd.C_drew ?_))); (case side2 => exact (Kd.R_reads' HO_23.out).2.1); rintro e w140 ⟨rfl, hb⟩; have n0_ := Aside0.mk (Kd.V_below (by (with_reducible repeat (first | apply Kd.V_alloc | apply Kd.V_drewN | apply Kd.V_drew)); exact HO_13.out) hb); have n1_ := Aside0.mk (Kd.V_below (by (with_reducible repeat (first | apply Kd.V_alloc | apply Kd.V_drewN | apply Kd.V_drew)); exact HO_19.out) hb); have n2_ := Aside0.mk (Kd.R_below (by (with_reducible repeat (first | apply Kd.R_alloc | apply Kd.R_drewN | apply Kd.R_drew)); exact HO_23.out) hb); have n3_ := Aside0.mk (below_step (by repeat (first | (with_reducible first | exact HB.out | apply below_alloc | apply pw_below_drewN | apply below_drew1) | exact HB.out)) hb); clear HO_13; clear HO_19; clear HO_23; clear HB; have HO_13 := n0_; have HO_19 := n1_; have HO_23 := n2_; have HB := n3_; clear n0_ n1_ n2_ n3_; (try clear hb); (try clear hb2); (try clear hk); (try clear hi)))
                                  go_ret
                                  exact ⟨by first | rfl | (simp [errW_none, errW_some] <;> rfl) | (simp [*, errW_none, errW_some] <;> rfl), by repeat (first | (with_reducible first | exact HB.out | apply below_alloc | apply pw_below_drewN | apply below_drew1) | exact HB.out)⟩)
                            · replace c118 := Bool.eq_false_iff.mpr c118
                              subst c118
                              have H1 : (some false) = some true := by rw [if_neg (show ¬ (false = true) by decide)] at H; exact H
                              clear H
                              have H := H1
                              clear H1
                              first
                              | exact absurd H (by first | decide | exact curtilagelaw11_FramesDo.j1_dead _ _ _ _ | exact curtilagelaw11_FramesDo.j2_dead _ _ _ _ _ _)
                              | skip
                              all_goals (
                                obtain rfl := Option.some.inj H
                                go_wp2_with (first | ((with_reducible refine gate_callee (f := 9) rfl ?_); refine goesL_ (some 188) rfl rfl Try.func9 (by kernel_rfl) rfl #[.slice A0 l0.length c0] rfl (by (try simp only [List.map_toArray, List.map_cons, List.map_nil]); first | done | rfl | (simp only [List.length_drop, List.length_take]; rfl)) ?_; (with_reducible refine (frames_Free.calls _ _ l0 t219 _ ?side1 ?side2 A109.out).mono ?_); (case side1 => repeat (first | exact (Kd.C_below HR0.out HB.out) | (with_reducible refine Kd.C_alloc ?_ _) | (with_reducible refine Kd.C_drewN ?_ _) | (with_reducible refine Kd.C_drew ?_))); (case side2 => exact HC0.out); rintro e w141 ⟨rfl, hb⟩; refine ⟨_, rfl, ?_⟩; have n0_ := Aside0.mk (Kd.V_below (by (with_reducible repeat (first | apply Kd.V_alloc | apply Kd.V_drewN | apply Kd.V_drew)); exact HO_13.out) hb); have n1_ := Aside0.mk (Kd.V_below (by (with_reducible repeat (first | apply Kd.V_alloc | apply Kd.V_drewN | apply Kd.V_drew)); exact HO_19.out) hb); have n2_ := Aside0.mk (Kd.R_below (by (with_reducible repeat (first | apply Kd.R_alloc | apply Kd.R_drewN | apply Kd.R_drew)); exact HO_23.out) hb); have n3_ := Aside0.mk (below_step (by repeat (first | (with_reducible first | exact HB.out | apply below_alloc | apply pw_below_drewN | apply below_drew1) | exact HB.out)) hb); clear HO_13; clear HO_19; clear HO_23; clear HB; have HO_13 := n0_; have HO_19 := n1_; have HO_23 := n2_; have HB := n3_; clear n0_ n1_ n2_ n3_; (try clear hb); (try clear hb2); (try clear hk); (try clear hi)) | ((with_reducible refine gate_callee (f := 23) rfl ?_); refine goesL_ (some 190) rfl rfl Try.func23 (by kernel_rfl) rfl #[.slice A0 l0.length c0] rfl (by (try simp only [List.map_toArray, List.map_cons, List.map_nil]); first | done | rfl | (simp only [List.length_drop, List.length_take]; rfl)) ?_; (with_reducible refine (curtilageref11_Free.calls kj49 _ _ l0 t220 _ ?side1 ?side2 A110.out).mono ?_); (case side1 => repeat (first | exact (Kd.C_below HR0.out HB.out) | (with_reducible refine Kd.C_alloc ?_ _) | (with_reducible refine Kd.C_drewN ?_ _) | (with_reducible refine Kd.C_drew ?_))); (case side2 => exact HC0.out); rintro e w' ⟨rfl, ⟨nd, rfl⟩⟩; refine ⟨_, rfl, ?_⟩) | (go_at_call 12; (with_reducible refine (frames_Held.calls _ _ l0 a2 t221 _ ?side1 ?side2 A112.out).mono ?_); (case side1 => repeat (first | exact (Kd.C_below HR0.out (by repeat (first | (with_reducible first | exact HB.out | apply below_alloc | apply pw_below_drewN | apply below_drew1) | exact HB.out))) | (with_reducible refine Kd.C_alloc ?_ _) | (with_reducible refine Kd.C_drewN ?_ _) | (with_reducible refine Kd.C_drew ?_))); (case side2 => exact HC0.out); rintro e w142 ⟨rfl, hb⟩; have n0_ := Aside0.mk (Kd.V_below (by (with_reducible repeat (first | apply Kd.V_alloc | apply Kd.V_drewN | apply Kd.V_drew)); exact HO_13.out) hb); have n1_ := Aside0.mk (Kd.V_below (by (with_reducible repeat (first | apply Kd.V_alloc | apply Kd.V_drewN | apply Kd.V_drew)); exact HO_19.out) hb); have n2_ := Aside0.mk (Kd.R_below (by (with_reducible repeat (first | apply Kd.R_alloc | apply Kd.R_drewN | apply Kd.R_drew)); exact HO_23.out) hb); have n3_ := Aside0.mk (below_step (by repeat (first | (with_reducible first | exact HB.out | apply below_alloc | apply pw_below_drewN | apply below_drew1) | exact HB.out)) hb); clear HO_13; clear HO_19; clear HO_23; clear HB; have HO_13 := n0_; have HO_19 := n1_; have HO_23 := n2_; have HB := n3_; clear n0_ n1_ n2_ n3_; (try clear hb); (try clear hb2); (try clear hk); (try clear hi)) | (go_at_call 24; (with_reducible refine (curtilageref11_Held.calls kj49 _ _ l0 a2 t222 _ ?side1 ?side2 A113.out).mono ?_); (case side1 => repeat (first | exact (Kd.C_below HR0.out HB.out) | (with_reducible refine Kd.C_alloc ?_ _) | (with_reducible refine Kd.C_drewN ?_ _) | (with_reducible refine Kd.C_drew ?_))); (case side2 => exact HC0.out); rintro e w143 ⟨rfl, hb⟩; have n0_ := Aside0.mk (Kd.V_below (by (with_reducible repeat (first | apply Kd.V_alloc | apply Kd.V_drewN | apply Kd.V_drew)); exact HO_13.out) hb); have n1_ := Aside0.mk (Kd.V_below (by (with_reducible repeat (first | apply Kd.V_alloc | apply Kd.V_drewN | apply Kd.V_drew)); exact HO_19.out) hb); have n2_ := Aside0.mk (Kd.R_below (by (with_reducible repeat (first | apply Kd.R_alloc | apply Kd.R_drewN | apply Kd.R_drew)); exact HO_23.out) hb); have n3_ := Aside0.mk (below_step (by repeat (first | (with_reducible first | exact HB.out | apply below_alloc | apply pw_below_drewN | apply below_drew1) | exact HB.out)) hb); clear HO_13; clear HO_19; clear HO_23; clear HB; have HO_13 := n0_; have HO_19 := n1_; have HO_23 := n2_; have HB := n3_; clear n0_ n1_ n2_ n3_; (try clear hb); (try clear hb2); (try clear hk); (try clear hi); obtain ⟨Ao144, co144, eo144⟩ := Kd.V_slice HO_13.out; subst eo144) | (go_at_call 14; (with_reducible refine (curtilageref11_Fit.calls kj49 _ _ t186 true _ ?side1 ?side2 A115.out).mono ?_); (case side1 => repeat (first | exact (Kd.V_reads' HO_13.out).2.2 | (with_reducible refine Kd.C_alloc ?_ _) | (with_reducible refine Kd.C_drewN ?_ _) | (with_reducible refine Kd.C_drew ?_))); (case side2 => exact (Kd.V_reads' HO_13.out).2.1); rintro e w145 ⟨rfl, hb⟩; have n0_ := Aside0.mk (Kd.V_below (by (with_reducible repeat (first | apply Kd.V_alloc | apply Kd.V_drewN | apply Kd.V_drew)); exact HO_13.out) hb); have n1_ := Aside0.mk (Kd.V_below (by (with_reducible repeat (first | apply Kd.V_alloc | apply Kd.V_drewN | apply Kd.V_drew)); exact HO_19.out) hb); have n2_ := Aside0.mk (Kd.R_below (by (with_reducible repeat (first | apply Kd.R_alloc | apply Kd.R_drewN | apply Kd.R_drew)); exact HO_23.out) hb); have n3_ := Aside0.mk (below_step (by repeat (first | (with_reducible first | exact HB.out | apply below_alloc | apply pw_below_drewN | apply below_drew1) | exact HB.out)) hb); clear HO_13; clear HO_19; clear HO_23; clear HB; have HO_13 := n0_; have HO_19 := n1_; have HO_23 := n2_; have HB := n3_; clear n0_ n1_ n2_ n3_; (try clear hb); (try clear hb2); (try clear hk); (try clear hi); obtain ⟨Ao146, co146, eo146⟩ := Kd.V_slice HO_19.out; subst eo146) | (go_at_call 14; (with_reducible refine (curtilageref11_Fit.calls kj49 _ _ t196 false _ ?side1 ?side2 A117.out).mono ?_); (case side1 => repeat (first | exact (Kd.V_reads' HO_19.out).2.2 | (with_reducible refine Kd.C_alloc ?_ _) | (with_reducible refine Kd.C_drewN ?_ _) | (with_reducible refine Kd.C_drew ?_))); (case side2 => exact (Kd.V_reads' HO_19.out).2.1); rintro e w147 ⟨rfl, hb⟩; have n0_ := Aside0.mk (Kd.V_below (by (with_reducible repeat (first | apply Kd.V_alloc | apply Kd.V_drewN | apply Kd.V_drew)); exact HO_13.out) hb); have n1_ := Aside0.mk (Kd.V_below (by (with_reducible repeat (first | apply Kd.V_alloc | apply Kd.V_drewN | apply Kd.V_drew)); exact HO_19.out) hb); have n2_ := Aside0.mk (Kd.R_below (by (with_reducible repeat (first | apply Kd.R_alloc | apply Kd.R_drewN | apply Kd.R_drew)); exact HO_23.out) hb); have n3_ := Aside0.mk (below_step (by repeat (first | (with_reducible first | exact HB.out | apply below_alloc | apply pw_below_drewN | apply below_drew1) | exact HB.out)) hb); clear HO_13; clear HO_19; clear HO_23; clear HB; have HO_13 := n0_; have HO_19 := n1_; have HO_23 := n2_; have HB := n3_; clear n0_ n1_ n2_ n3_; (try clear hb); (try clear hb2); (try clear hk); (try clear hi)))
                                go_ret
                                exact ⟨by first | rfl | (simp [errW_none, errW_some] <;> rfl) | (simp [*, errW_none, errW_some] <;> rfl), by repeat (first | (with_reducible first | exact HB.out | apply below_alloc | apply pw_below_drewN | apply below_drew1) | exact HB.out)⟩)
                          · replace c116 := Bool.eq_false_iff.mpr c116
                            subst c116
                            have H1 : (some false) = some true := by rw [if_neg (show ¬ (false = true) by decide)] at H; exact H
                            clear H
                            have H := H1
                            clear H1
                            first
                            | exact absurd H (by first | decide | exact curtilagelaw11_FramesDo.j1_dead _ _ _ _ | exact curtilagelaw11_FramesDo.j2_dead _ _ _ _ _ _)
                            | skip
                            all_goals (
                              obtain rfl := Option.some.inj H
                              go_wp2_with (first | ((with_reducible refine gate_callee (f := 9) rfl ?_); refine goesL_ (some 188) rfl rfl Try.func9 (by kernel_rfl) rfl #[.slice A0 l0.length c0] rfl (by (try simp only [List.map_toArray, List.map_cons, List.map_nil]); first | done | rfl | (simp only [List.length_drop, List.length_take]; rfl)) ?_; (with_reducible refine (frames_Free.calls _ _ l0 t219 _ ?side1 ?side2 A109.out).mono ?_); (case side1 => repeat (first | exact (Kd.C_below HR0.out HB.out) | (with_reducible refine Kd.C_alloc ?_ _) | (with_reducible refine Kd.C_drewN ?_ _) | (with_reducible refine Kd.C_drew ?_))); (case side2 => exact HC0.out); rintro e w148 ⟨rfl, hb⟩; refine ⟨_, rfl, ?_⟩; have n0_ := Aside0.mk (Kd.V_below (by (with_reducible repeat (first | apply Kd.V_alloc | apply Kd.V_drewN | apply Kd.V_drew)); exact HO_13.out) hb); have n1_ := Aside0.mk (Kd.V_below (by (with_reducible repeat (first | apply Kd.V_alloc | apply Kd.V_drewN | apply Kd.V_drew)); exact HO_19.out) hb); have n2_ := Aside0.mk (Kd.R_below (by (with_reducible repeat (first | apply Kd.R_alloc | apply Kd.R_drewN | apply Kd.R_drew)); exact HO_23.out) hb); have n3_ := Aside0.mk (below_step (by repeat (first | (with_reducible first | exact HB.out | apply below_alloc | apply pw_below_drewN | apply below_drew1) | exact HB.out)) hb); clear HO_13; clear HO_19; clear HO_23; clear HB; have HO_13 := n0_; have HO_19 := n1_; have HO_23 := n2_; have HB := n3_; clear n0_ n1_ n2_ n3_; (try clear hb); (try clear hb2); (try clear hk); (try clear hi)) | ((with_reducible refine gate_callee (f := 23) rfl ?_); refine goesL_ (some 190) rfl rfl Try.func23 (by kernel_rfl) rfl #[.slice A0 l0.length c0] rfl (by (try simp only [List.map_toArray, List.map_cons, List.map_nil]); first | done | rfl | (simp only [List.length_drop, List.length_take]; rfl)) ?_; (with_reducible refine (curtilageref11_Free.calls kj49 _ _ l0 t220 _ ?side1 ?side2 A110.out).mono ?_); (case side1 => repeat (first | exact (Kd.C_below HR0.out HB.out) | (with_reducible refine Kd.C_alloc ?_ _) | (with_reducible refine Kd.C_drewN ?_ _) | (with_reducible refine Kd.C_drew ?_))); (case side2 => exact HC0.out); rintro e w' ⟨rfl, ⟨nd, rfl⟩⟩; refine ⟨_, rfl, ?_⟩) | (go_at_call 12; (with_reducible refine (frames_Held.calls _ _ l0 a2 t221 _ ?side1 ?side2 A112.out).mono ?_); (case side1 => repeat (first | exact (Kd.C_below HR0.out (by repeat (first | (with_reducible first | exact HB.out | apply below_alloc | apply pw_below_drewN | apply below_drew1) | exact HB.out))) | (with_reducible refine Kd.C_alloc ?_ _) | (with_reducible refine Kd.C_drewN ?_ _) | (with_reducible refine Kd.C_drew ?_))); (case side2 => exact HC0.out); rintro e w149 ⟨rfl, hb⟩; have n0_ := Aside0.mk (Kd.V_below (by (with_reducible repeat (first | apply Kd.V_alloc | apply Kd.V_drewN | apply Kd.V_drew)); exact HO_13.out) hb); have n1_ := Aside0.mk (Kd.V_below (by (with_reducible repeat (first | apply Kd.V_alloc | apply Kd.V_drewN | apply Kd.V_drew)); exact HO_19.out) hb); have n2_ := Aside0.mk (Kd.R_below (by (with_reducible repeat (first | apply Kd.R_alloc | apply Kd.R_drewN | apply Kd.R_drew)); exact HO_23.out) hb); have n3_ := Aside0.mk (below_step (by repeat (first | (with_reducible first | exact HB.out | apply below_alloc | apply pw_below_drewN | apply below_drew1) | exact HB.out)) hb); clear HO_13; clear HO_19; clear HO_23; clear HB; have HO_13 := n0_; have HO_19 := n1_; have HO_23 := n2_; have HB := n3_; clear n0_ n1_ n2_ n3_; (try clear hb); (try clear hb2); (try clear hk); (try clear hi)) | (go_at_call 24; (with_reducible refine (curtilageref11_Held.calls kj49 _ _ l0 a2 t222 _ ?side1 ?side2 A113.out).mono ?_); (case side1 => repeat (first | exact (Kd.C_below HR0.out HB.out) | (with_reducible refine Kd.C_alloc ?_ _) | (with_reducible refine Kd.C_drewN ?_ _) | (with_reducible refine Kd.C_drew ?_))); (case side2 => exact HC0.out); rintro e w150 ⟨rfl, hb⟩; have n0_ := Aside0.mk (Kd.V_below (by (with_reducible repeat (first | apply Kd.V_alloc | apply Kd.V_drewN | apply Kd.V_drew)); exact HO_13.out) hb); have n1_ := Aside0.mk (Kd.V_below (by (with_reducible repeat (first | apply Kd.V_alloc | apply Kd.V_drewN | apply Kd.V_drew)); exact HO_19.out) hb); have n2_ := Aside0.mk (Kd.R_below (by (with_reducible repeat (first | apply Kd.R_alloc | apply Kd.R_drewN | apply Kd.R_drew)); exact HO_23.out) hb); have n3_ := Aside0.mk (below_step (by repeat (first | (with_reducible first | exact HB.out | apply below_alloc | apply pw_below_drewN | apply below_drew1) | exact HB.out)) hb); clear HO_13; clear HO_19; clear HO_23; clear HB; have HO_13 := n0_; have HO_19 := n1_; have HO_23 := n2_; have HB := n3_; clear n0_ n1_ n2_ n3_; (try clear hb); (try clear hb2); (try clear hk); (try clear hi); obtain ⟨Ao151, co151, eo151⟩ := Kd.V_slice HO_13.out; subst eo151) | (go_at_call 14; (with_reducible refine (curtilageref11_Fit.calls kj49 _ _ t186 false _ ?side1 ?side2 A115.out).mono ?_); (case side1 => repeat (first | exact (Kd.V_reads' HO_13.out).2.2 | (with_reducible refine Kd.C_alloc ?_ _) | (with_reducible refine Kd.C_drewN ?_ _) | (with_reducible refine Kd.C_drew ?_))); (case side2 => exact (Kd.V_reads' HO_13.out).2.1); rintro e w152 ⟨rfl, hb⟩; have n0_ := Aside0.mk (Kd.V_below (by (with_reducible repeat (first | apply Kd.V_alloc | apply Kd.V_drewN | apply Kd.V_drew)); exact HO_13.out) hb); have n1_ := Aside0.mk (Kd.V_below (by (with_reducible repeat (first | apply Kd.V_alloc | apply Kd.V_drewN | apply Kd.V_drew)); exact HO_19.out) hb); have n2_ := Aside0.mk (Kd.R_below (by (with_reducible repeat (first | apply Kd.R_alloc | apply Kd.R_drewN | apply Kd.R_drew)); exact HO_23.out) hb); have n3_ := Aside0.mk (below_step (by repeat (first | (with_reducible first | exact HB.out | apply below_alloc | apply pw_below_drewN | apply below_drew1) | exact HB.out)) hb); clear HO_13; clear HO_19; clear HO_23; clear HB; have HO_13 := n0_; have HO_19 := n1_; have HO_23 := n2_; have HB := n3_; clear n0_ n1_ n2_ n3_; (try clear hb); (try clear hb2); (try clear hk); (try clear hi)))
                              go_ret
                              exact ⟨by first | rfl | (simp [errW_none, errW_some] <;> rfl) | (simp [*, errW_none, errW_some] <;> rfl), by repeat (first | (with_reducible first | exact HB.out | apply below_alloc | apply pw_below_drewN | apply below_drew1) | exact HB.out)⟩)
                        · rw [if_neg c114] at H
                          have c114b0 : (t221 == t222) = false := beq_eq_false_iff_ne.mpr c114
                          have c114b1 : (t221 != t222) = true := bne_iff_ne.mpr c114
                          first
                          | exact absurd H (by first | decide | exact curtilagelaw11_FramesDo.j1_dead _ _ _ _ | exact curtilagelaw11_FramesDo.j2_dead _ _ _ _ _ _)
                          | skip
                          all_goals (
                            obtain rfl := Option.some.inj H
                            go_wp2_with (first | ((with_reducible refine gate_callee (f := 9) rfl ?_); refine goesL_ (some 188) rfl rfl Try.func9 (by kernel_rfl) rfl #[.slice A0 l0.length c0] rfl (by (try simp only [List.map_toArray, List.map_cons, List.map_nil]); first | done | rfl | (simp only [List.length_drop, List.length_take]; rfl)) ?_; (with_reducible refine (frames_Free.calls _ _ l0 t219 _ ?side1 ?side2 A109.out).mono ?_); (case side1 => repeat (first | exact (Kd.C_below HR0.out HB.out) | (with_reducible refine Kd.C_alloc ?_ _) | (with_reducible refine Kd.C_drewN ?_ _) | (with_reducible refine Kd.C_drew ?_))); (case side2 => exact HC0.out); rintro e w153 ⟨rfl, hb⟩; refine ⟨_, rfl, ?_⟩; have n0_ := Aside0.mk (Kd.V_below (by (with_reducible repeat (first | apply Kd.V_alloc | apply Kd.V_drewN | apply Kd.V_drew)); exact HO_13.out) hb); have n1_ := Aside0.mk (Kd.V_below (by (with_reducible repeat (first | apply Kd.V_alloc | apply Kd.V_drewN | apply Kd.V_drew)); exact HO_19.out) hb); have n2_ := Aside0.mk (Kd.R_below (by (with_reducible repeat (first | apply Kd.R_alloc | apply Kd.R_drewN | apply Kd.R_drew)); exact HO_23.out) hb); have n3_ := Aside0.mk (below_step (by repeat (first | (with_reducible first | exact HB.out | apply below_alloc | apply pw_below_drewN | apply below_drew1) | exact HB.out)) hb); clear HO_13; clear HO_19; clear HO_23; clear HB; have HO_13 := n0_; have HO_19 := n1_; have HO_23 := n2_; have HB := n3_; clear n0_ n1_ n2_ n3_; (try clear hb); (try clear hb2); (try clear hk); (try clear hi)) | ((with_reducible refine gate_callee (f := 23) rfl ?_); refine goesL_ (some 190) rfl rfl Try.func23 (by kernel_rfl) rfl #[.slice A0 l0.length c0] rfl (by (try simp only [List.map_toArray, List.map_cons, List.map_nil]); first | done | rfl | (simp only [List.length_drop, List.length_take]; rfl)) ?_; (with_reducible refine (curtilageref11_Free.calls kj49 _ _ l0 t220 _ ?side1 ?side2 A110.out).mono ?_); (case side1 => repeat (first | exact (Kd.C_below HR0.out HB.out) | (with_reducible refine Kd.C_alloc ?_ _) | (with_reducible refine Kd.C_drewN ?_ _) | (with_reducible refine Kd.C_drew ?_))); (case side2 => exact HC0.out); rintro e w' ⟨rfl, ⟨nd, rfl⟩⟩; refine ⟨_, rfl, ?_⟩) | (go_at_call 12; (with_reducible refine (frames_Held.calls _ _ l0 a2 t221 _ ?side1 ?side2 A112.out).mono ?_); (case side1 => repeat (first | exact (Kd.C_below HR0.out (by repeat (first | (with_reducible first | exact HB.out | apply below_alloc | apply pw_below_drewN | apply below_drew1) | exact HB.out))) | (with_reducible refine Kd.C_alloc ?_ _) | (with_reducible refine Kd.C_drewN ?_ _) | (with_reducible refine Kd.C_drew ?_))); (case side2 => exact HC0.out); rintro e w154 ⟨rfl, hb⟩; have n0_ := Aside0.mk (Kd.V_below (by (with_reducible repeat (first | apply Kd.V_alloc | apply Kd.V_drewN | apply Kd.V_drew)); exact HO_13.out) hb); have n1_ := Aside0.mk (Kd.V_below (by (with_reducible repeat (first | apply Kd.V_alloc | apply Kd.V_drewN | apply Kd.V_drew)); exact HO_19.out) hb); have n2_ := Aside0.mk (Kd.R_below (by (with_reducible repeat (first | apply Kd.R_alloc | apply Kd.R_drewN | apply Kd.R_drew)); exact HO_23.out) hb); have n3_ := Aside0.mk (below_step (by repeat (first | (with_reducible first | exact HB.out | apply below_alloc | apply pw_below_drewN | apply below_drew1) | exact HB.out)) hb); clear HO_13; clear HO_19; clear HO_23; clear HB; have HO_13 := n0_; have HO_19 := n1_; have HO_23 := n2_; have HB := n3_; clear n0_ n1_ n2_ n3_; (try clear hb); (try clear hb2); (try clear hk); (try clear hi)) | (go_at_call 24; (with_reducible refine (curtilageref11_Held.calls kj49 _ _ l0 a2 t222 _ ?side1 ?side2 A113.out).mono ?_); (case side1 => repeat (first | exact (Kd.C_below HR0.out HB.out) | (with_reducible refine Kd.C_alloc ?_ _) | (with_reducible refine Kd.C_drewN ?_ _) | (with_reducible refine Kd.C_drew ?_))); (case side2 => exact HC0.out); rintro e w155 ⟨rfl, hb⟩; have n0_ := Aside0.mk (Kd.V_below (by (with_reducible repeat (first | apply Kd.V_alloc | apply Kd.V_drewN | apply Kd.V_drew)); exact HO_13.out) hb); have n1_ := Aside0.mk (Kd.V_below (by (with_reducible repeat (first | apply Kd.V_alloc | apply Kd.V_drewN | apply Kd.V_drew)); exact HO_19.out) hb); have n2_ := Aside0.mk (Kd.R_below (by (with_reducible repeat (first | apply Kd.R_alloc | apply Kd.R_drewN | apply Kd.R_drew)); exact HO_23.out) hb); have n3_ := Aside0.mk (below_step (by repeat (first | (with_reducible first | exact HB.out | apply below_alloc | apply pw_below_drewN | apply below_drew1) | exact HB.out)) hb); clear HO_13; clear HO_19; clear HO_23; clear HB; have HO_13 := n0_; have HO_19 := n1_; have HO_23 := n2_; have HB := n3_; clear n0_ n1_ n2_ n3_; (try clear hb); (try clear hb2); (try clear hk); (try clear hi)))
                            go_ret
                            exact ⟨by first | rfl | (simp [errW_none, errW_some] <;> rfl) | (simp [*, errW_none, errW_some] <;> rfl), by repeat (first | (with_reducible first | exact HB.out | apply below_alloc | apply pw_below_drewN | apply below_drew1) | exact HB.out)⟩)
                      · rw [if_neg c111] at H
                        have c111b0 : (t219 == t220) = false := beq_eq_false_iff_ne.mpr c111
                        have c111b1 : (t219 != t220) = true := bne_iff_ne.mpr c111
                        first
                        | exact absurd H (by first | decide | exact curtilagelaw11_FramesDo.j1_dead _ _ _ _ | exact curtilagelaw11_FramesDo.j2_dead _ _ _ _ _ _)
                        | skip
                        all_goals (
                          obtain rfl := Option.some.inj H
                          go_wp2_with (first | ((with_reducible refine gate_callee (f := 9) rfl ?_); refine goesL_ (some 188) rfl rfl Try.func9 (by kernel_rfl) rfl #[.slice A0 l0.length c0] rfl (by (try simp only [List.map_toArray, List.map_cons, List.map_nil]); first | done | rfl | (simp only [List.length_drop, List.length_take]; rfl)) ?_; (with_reducible refine (frames_Free.calls _ _ l0 t219 _ ?side1 ?side2 A109.out).mono ?_); (case side1 => repeat (first | exact (Kd.C_below HR0.out HB.out) | (with_reducible refine Kd.C_alloc ?_ _) | (with_reducible refine Kd.C_drewN ?_ _) | (with_reducible refine Kd.C_drew ?_))); (case side2 => exact HC0.out); rintro e w156 ⟨rfl, hb⟩; refine ⟨_, rfl, ?_⟩; have n0_ := Aside0.mk (Kd.V_below (by (with_reducible repeat (first | apply Kd.V_alloc | apply Kd.V_drewN | apply Kd.V_drew)); exact HO_13.out) hb); have n1_ := Aside0.mk (Kd.V_below (by (with_reducible repeat (first | apply Kd.V_alloc | apply Kd.V_drewN | apply Kd.V_drew)); exact HO_19.out) hb); have n2_ := Aside0.mk (Kd.R_below (by (with_reducible repeat (first | apply Kd.R_alloc | apply Kd.R_drewN | apply Kd.R_drew)); exact HO_23.out) hb); have n3_ := Aside0.mk (below_step (by repeat (first | (with_reducible first | exact HB.out | apply below_alloc | apply pw_below_drewN | apply below_drew1) | exact HB.out)) hb); clear HO_13; clear HO_19; clear HO_23; clear HB; have HO_13 := n0_; have HO_19 := n1_; have HO_23 := n2_; have HB := n3_; clear n0_ n1_ n2_ n3_; (try clear hb); (try clear hb2); (try clear hk); (try clear hi)) | ((with_reducible refine gate_callee (f := 23) rfl ?_); refine goesL_ (some 190) rfl rfl Try.func23 (by kernel_rfl) rfl #[.slice A0 l0.length c0] rfl (by (try simp only [List.map_toArray, List.map_cons, List.map_nil]); first | done | rfl | (simp only [List.length_drop, List.length_take]; rfl)) ?_; (with_reducible refine (curtilageref11_Free.calls kj49 _ _ l0 t220 _ ?side1 ?side2 A110.out).mono ?_); (case side1 => repeat (first | exact (Kd.C_below HR0.out HB.out) | (with_reducible refine Kd.C_alloc ?_ _) | (with_reducible refine Kd.C_drewN ?_ _) | (with_reducible refine Kd.C_drew ?_))); (case side2 => exact HC0.out); rintro e w' ⟨rfl, ⟨nd, rfl⟩⟩; refine ⟨_, rfl, ?_⟩))
                          go_ret
                          exact ⟨by first | rfl | (simp [errW_none, errW_some] <;> rfl) | (simp [*, errW_none, errW_some] <;> rfl), by repeat (first | (with_reducible first | exact HB.out | apply below_alloc | apply pw_below_drewN | apply below_drew1) | exact HB.out)⟩)
              · replace c41 := Bool.eq_false_iff.mpr c41
                subst c41
                have H1 : ((curtilagelaw11_awake.f).bind fun t185 => (some t185)) = some true := by rw [if_neg (show ¬ (false = true) by decide)] at H; exact H
                clear H
                have H := H1
                clear H1
                replace H := Option.bind_eq_some_iff.mp H
                obtain ⟨t185, A1570, H⟩ := H
                replace H : (some t185) = some true := H
                have A157 := Aside0.mk A1570
                clear A1570
                first
                | exact absurd H (by first | decide | exact curtilagelaw11_FramesDo.j1_dead _ _ _ _ | exact curtilagelaw11_FramesDo.j2_dead _ _ _ _ _ _)
                | skip
                all_goals (
                  obtain rfl := Option.some.inj H
                  go_wp2_with (first | ((with_reducible refine gate_callee (f := 14) rfl ?_); refine goesL_ (some 82) rfl rfl Try.func14 (by kernel_rfl) rfl #[.slice A0 l0.length c0] rfl (by (try simp only [List.map_toArray, List.map_cons, List.map_nil]); first | done | rfl | (simp only [List.length_drop, List.length_take]; rfl)) ?_; (with_reducible refine (curtilageref11_Fit.calls kj11 _ _ l0 false _ ?side1 ?side2 A40.out).mono ?_); (case side1 => repeat (first | exact (Kd.C_below HR0.out HB.out) | (with_reducible refine Kd.C_alloc ?_ _) | (with_reducible refine Kd.C_drewN ?_ _) | (with_reducible refine Kd.C_drew ?_))); (case side2 => exact HC0.out); rintro e w158 ⟨rfl, hb⟩; refine ⟨_, rfl, ?_⟩; have n0_ := Aside0.mk (below_step (by repeat (first | (with_reducible first | exact HB.out | apply below_alloc | apply pw_below_drewN | apply below_drew1) | exact HB.out)) hb); clear HB; have HB := n0_; clear n0_; (try clear hb); (try clear hb2); (try clear hk); (try clear hi)) | ((with_reducible refine gate_callee (f := 6) rfl ?_); refine goesL_ (some 84) rfl rfl Try.func6 (by kernel_rfl) rfl #[] rfl (by (try simp only [List.map_toArray, List.map_cons, List.map_nil]); first | done | rfl | (simp only [List.length_drop, List.length_take]; rfl)) ?_; (with_reducible refine (curtilagelaw11_awake.calls  true _ A157.out).mono ?_); rintro e w159 ⟨rfl, hb⟩; refine ⟨_, rfl, ?_⟩; have n0_ := Aside0.mk (below_step (by repeat (first | (with_reducible first | exact HB.out | apply below_alloc | apply pw_below_drewN | apply below_drew1) | exact HB.out)) hb); clear HB; have HB := n0_; clear n0_; (try clear hb); (try clear hb2); (try clear hk); (try clear hi)))
                  go_ret
                  exact ⟨by first | rfl | (simp [errW_none, errW_some] <;> rfl) | (simp [*, errW_none, errW_some] <;> rfl), by repeat (first | (with_reducible first | exact HB.out | apply below_alloc | apply pw_below_drewN | apply below_drew1) | exact HB.out)⟩)

end Go.Proofs.Ytgpdiehdljecnaa.X
