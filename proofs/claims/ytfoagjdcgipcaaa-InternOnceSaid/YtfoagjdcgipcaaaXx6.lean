/- Walks of Go functions: each proves that the call answers what the Lean function of its name computes, wherever that is told; written by a program of this work out of the translation. -/
import Derived.Test.YtfoagjdcgipcaaaXx0
import Derived.Test.YtfoagjdcgipcaaaXx2
import Derived.Test.YtfoagjdcgipcaaaXx3
import Derived.Test.YtfoagjdcgipcaaaXx5
import Derived.Test.YtfoagjdcgipcaaaJa
import Derived.Test.YtfoagjdcgipcaaaJt
import Derived.Test.YtfoagjdcgipcaaaJu
import Derived.Test.YtfoagjdcgipcaaaJv
import Derived.Test.YtfoagjdcgipcaaaJw
import Derived.Test.YtfoagjdcgipcaaaJx
import Derived.Test.YtfoagjdcgipcaaaJq
import Derived.Test.YtfoagjdcgipcaaaJr
import Derived.Test.YtfoagjdcgipcaaaJy
import Derived.Test.YtfoagjdcgipcaaaKa
import Derived.Test.YtfoagjdcgipcaaaKb
import Derived.Test.YtfoagjdcgipcaaaKc
namespace Go.Proofs.Ytfoagjdcgipcaaa.X
open Go.RowKit Go.Proofs.YtfoagjdcgipcaaaW.PrintWords Go.Proofs.YtfoagjdcgipcaaaW.PrintLast Go.Proofs.YtfoagjdcgipcaaaW.PrintMore
attribute [local go_sem] max2_int min2_int max_two min_two max_three min_three max_four min_four   -- for this text's walks alone
set_option linter.unusedVariables false
set_option linter.unusedSimpArgs false

/-! ### curtilagelaw05_InternOnce: function 3 -/
mutual
def curtilagelaw05_InternOnce.l0 : Nat → List (List (S57)) → List Bool → List Int → List Bool → List (List (S57)) → Int → Int → List (List (S57)) → List Int → Option (Bool)
  | 0, _, _, _, _, _, _, _, _, _ => none
  | k + 1, x0, x1, x6, x7, x28, x29, x30, x150000, x150001 => if x30 < x29 then (if 0 ≤ x30 then (if x30 < (x28.length : Int) then ((curtilageref02_Fit.f k (rd_L3 x28 x30)).bind fun t157 => (if t157 = true then (curtilagelaw05_InternOnce.j1 k x0 x1 x6 x7 x30 (rd_L3 x28 x30) x28 x29 x30 (decide (((rd_L3 x28 x30).length : Int) > 16)) x150000 x150001) else (curtilagelaw05_InternOnce.j1 k x0 x1 x6 x7 x30 (rd_L3 x28 x30) x28 x29 x30 true x150000 x150001))) else (none)) else (none)) else (curtilagelaw05_InternOnce.l1 k x6 x7 (x0.length : Int) 0 x150000 x150001)
def curtilagelaw05_InternOnce.j1 : Nat → List (List (S57)) → List Bool → List Int → List Bool → Int → List (S57) → List (List (S57)) → Int → Int → Bool → List (List (S57)) → List Int → Option (Bool)
  | 0, _, _, _, _, _, _, _, _, _, _, _, _ => none
  | k + 1, x0, x1, x6, x7, x8, x9, x28, x29, x30, x42, x150000, x150001 => if x42 = true then ((curtilagelaw05_awake.f k).bind fun t158 => (some t158)) else ((intern_Add.f k x150000 x150001 x9).bind fun bt159 => (if bt159.2.2.2 = 0 then (if 0 ≤ x8 then (if x8 < (x6.length : Int) then ((some (x6.set (x8 : Int).toNat bt159.2.2.1 : List Int)).bind fun y168 => (if x8 < (x1.length : Int) then (if rdOf false x1 x8 = true then (if 0 ≤ (wrap64 (Int.tdiv x8 2)) then (if (wrap64 (Int.tdiv x8 2)) < (x7.length : Int) then (curtilagelaw05_InternOnce.j2 k x0 x1 y168 x7 x8 x28 x29 x30 (!(rdOf false x7 (wrap64 (Int.tdiv x8 2)))) bt159.1 bt159.2.1) else (none)) else (none)) else (curtilagelaw05_InternOnce.j2 k x0 x1 y168 x7 x8 x28 x29 x30 false bt159.1 bt159.2.1)) else (curtilagelaw05_InternOnce.j2 k x0 x1 y168 x7 x8 x28 x29 x30 false bt159.1 bt159.2.1))) else (none)) else (none)) else (some false)))
def curtilagelaw05_InternOnce.j2 : Nat → List (List (S57)) → List Bool → List Int → List Bool → Int → List (List (S57)) → Int → Int → Bool → List (List (S57)) → List Int → Option (Bool)
  | 0, _, _, _, _, _, _, _, _, _, _, _ => none
  | k + 1, x0, x1, x6, x7, x8, x28, x29, x30, x75, x150000, x150001 => if x75 = true then (if 0 ≤ (wrap64 (Int.tdiv x8 2)) then (if (wrap64 (Int.tdiv x8 2)) < (x6.length : Int) then ((intern_Drop.f x150000 x150001 (rd x6 (wrap64 (Int.tdiv x8 2)))).bind fun bt172 => (if (wrap64 (Int.tdiv x8 2)) < (x7.length : Int) then ((some (x7.set ((wrap64 (Int.tdiv x8 2)) : Int).toNat true : List Bool)).bind fun y180 => (if bt172.2.2 = 0 then ((curtilagelaw05_same.f k bt172.1 bt172.2.1 x6 y180 x0 x8).bind fun t181 => (if t181 = true then (curtilagelaw05_InternOnce.l0 k x0 x1 x6 y180 x28 x29 (wrap64 (x30 + 1)) bt172.1 bt172.2.1) else (some false))) else (some false))) else (none))) else (none)) else (none)) else ((curtilagelaw05_same.f k x150000 x150001 x6 x7 x0 x8).bind fun t182 => (if t182 = true then (curtilagelaw05_InternOnce.l0 k x0 x1 x6 x7 x28 x29 (wrap64 (x30 + 1)) x150000 x150001) else (some false)))
def curtilagelaw05_InternOnce.l1 : Nat → List Int → List Bool → Int → Int → List (List (S57)) → List Int → Option (Bool)
  | 0, _, _, _, _, _, _ => none
  | k + 1, x6, x7, x102, x103, x150000, x150001 => if x103 < x102 then (if 0 ≤ x103 then (if x103 < (x7.length : Int) then (if rdOf false x7 x103 = true then (curtilagelaw05_InternOnce.l1 k x6 x7 x102 (wrap64 (x103 + 1)) x150000 x150001) else (if x103 < (x6.length : Int) then ((intern_Drop.f x150000 x150001 (rd x6 x103)).bind fun bt186 => (if bt186.2.2 = 0 then (curtilagelaw05_InternOnce.l1 k x6 x7 x102 (wrap64 (x103 + 1)) bt186.1 bt186.2.1) else (some false))) else (none))) else (none)) else (none)) else (if (wrap64 ((x150000.length : Int) + (x150001.length : Int))) = 0 then ((curtilagelaw05_awake.f k).bind fun t183 => (some t183)) else (some false))
end
def curtilagelaw05_InternOnce.f (k : Nat) (l0 : List (List (S57))) (l1 : List Bool) : Option (Bool) := if (l0.length : Int) > 60 then ((curtilagelaw05_awake.f k).bind fun t148 => (some t148)) else (if 0 ≤ (l0.length : Int) then (if ((l0.length : Int) : Int).toNat ≤ 35184372088832 then (if ((l0.length : Int) : Int).toNat ≤ 281474976710656 then (curtilagelaw05_InternOnce.l0 k l0 l1 (List.replicate ((l0.length : Int) : Int).toNat 0) (List.replicate ((l0.length : Int) : Int).toNat false) l0 (l0.length : Int) 0 ([] : List (List (S57))) ([] : List Int)) else (none)) else (none)) else (none))
theorem curtilagelaw05_InternOnce.mono_l : ∀ k, (∀ y0 y1 y2 y3 y4 y5 y6 y7 y8, LeO (curtilagelaw05_InternOnce.l0 k y0 y1 y2 y3 y4 y5 y6 y7 y8) (curtilagelaw05_InternOnce.l0 (k + 1) y0 y1 y2 y3 y4 y5 y6 y7 y8)) ∧ (∀ y0 y1 y2 y3 y4 y5 y6 y7 y8 y9 y10 y11, LeO (curtilagelaw05_InternOnce.j1 k y0 y1 y2 y3 y4 y5 y6 y7 y8 y9 y10 y11) (curtilagelaw05_InternOnce.j1 (k + 1) y0 y1 y2 y3 y4 y5 y6 y7 y8 y9 y10 y11)) ∧ (∀ y0 y1 y2 y3 y4 y5 y6 y7 y8 y9 y10, LeO (curtilagelaw05_InternOnce.j2 k y0 y1 y2 y3 y4 y5 y6 y7 y8 y9 y10) (curtilagelaw05_InternOnce.j2 (k + 1) y0 y1 y2 y3 y4 y5 y6 y7 y8 y9 y10)) ∧ (∀ y0 y1 y2 y3 y4 y5, LeO (curtilagelaw05_InternOnce.l1 k y0 y1 y2 y3 y4 y5) (curtilagelaw05_InternOnce.l1 (k + 1) y0 y1 y2 y3 y4 y5))
  | 0 => ⟨fun _ _ _ _ _ _ _ _ _ r h => by simp [curtilagelaw05_InternOnce.l0] at h, fun _ _ _ _ _ _ _ _ _ _ _ _ r h => by simp [curtilagelaw05_InternOnce.j1] at h, fun _ _ _ _ _ _ _ _ _ _ _ r h => by simp [curtilagelaw05_InternOnce.j2] at h, fun _ _ _ _ _ _ r h => by simp [curtilagelaw05_InternOnce.l1] at h⟩
  | k + 1 => by
    obtain ⟨ih0, ih1, ih2, ih3⟩ := curtilagelaw05_InternOnce.mono_l k
    refine ⟨?_, ?_, ?_, ?_⟩
    · intro y0 y1 y2 y3 y4 y5 y6 y7 y8
      unfold curtilagelaw05_InternOnce.l0
      repeat' first
      | (with_reducible exact ih0 _ _ _ _ _ _ _ _ _)
      | (with_reducible exact ih1 _ _ _ _ _ _ _ _ _ _ _ _)
      | (with_reducible exact ih2 _ _ _ _ _ _ _ _ _ _ _)
      | (with_reducible exact ih3 _ _ _ _ _ _)
      | (with_reducible exact curtilagelaw05_awake.mono _)
      | (with_reducible exact curtilagelaw05_same.mono _ _ _ _ _ _ _)
      | (with_reducible exact curtilageref02_Fit.mono _ _)
      | (with_reducible exact intern_Add.mono _ _ _ _)
      | (with_reducible exact LeO.refl _)
      | (with_reducible exact LeO.none _)
      | (with_reducible refine LeO.ite ?_ ?_)
      | (with_reducible refine LeO.bind ?_ (fun _ => ?_))
      | exact ih0 _ _ _ _ _ _ _ _ _
      | exact ih1 _ _ _ _ _ _ _ _ _ _ _ _
      | exact ih2 _ _ _ _ _ _ _ _ _ _ _
      | exact ih3 _ _ _ _ _ _
      | exact curtilagelaw05_awake.mono _
      | exact curtilagelaw05_same.mono _ _ _ _ _ _ _
      | exact curtilageref02_Fit.mono _ _
      | exact intern_Add.mono _ _ _ _
      | exact LeO.none _
      | refine LeO.ite ?_ ?_
      | refine LeO.bind ?_ (fun _ => ?_)
    · intro y0 y1 y2 y3 y4 y5 y6 y7 y8 y9 y10 y11
      unfold curtilagelaw05_InternOnce.j1
      repeat' first
      | (with_reducible exact ih0 _ _ _ _ _ _ _ _ _)
      | (with_reducible exact ih1 _ _ _ _ _ _ _ _ _ _ _ _)
      | (with_reducible exact ih2 _ _ _ _ _ _ _ _ _ _ _)
      | (with_reducible exact ih3 _ _ _ _ _ _)
      | (with_reducible exact curtilagelaw05_awake.mono _)
      | (with_reducible exact curtilagelaw05_same.mono _ _ _ _ _ _ _)
      | (with_reducible exact curtilageref02_Fit.mono _ _)
      | (with_reducible exact intern_Add.mono _ _ _ _)
      | (with_reducible exact LeO.refl _)
      | (with_reducible exact LeO.none _)
      | (with_reducible refine LeO.ite ?_ ?_)
      | (with_reducible refine LeO.bind ?_ (fun _ => ?_))
      | exact ih0 _ _ _ _ _ _ _ _ _
      | exact ih1 _ _ _ _ _ _ _ _ _ _ _ _
      | exact ih2 _ _ _ _ _ _ _ _ _ _ _
      | exact ih3 _ _ _ _ _ _
      | exact curtilagelaw05_awake.mono _
      | exact curtilagelaw05_same.mono _ _ _ _ _ _ _
      | exact curtilageref02_Fit.mono _ _
      | exact intern_Add.mono _ _ _ _
      | exact LeO.none _
      | refine LeO.ite ?_ ?_
      | refine LeO.bind ?_ (fun _ => ?_)
    · intro y0 y1 y2 y3 y4 y5 y6 y7 y8 y9 y10
      unfold curtilagelaw05_InternOnce.j2
      repeat' first
      | (with_reducible exact ih0 _ _ _ _ _ _ _ _ _)
      | (with_reducible exact ih1 _ _ _ _ _ _ _ _ _ _ _ _)
      | (with_reducible exact ih2 _ _ _ _ _ _ _ _ _ _ _)
      | (with_reducible exact ih3 _ _ _ _ _ _)
      | (with_reducible exact curtilagelaw05_awake.mono _)
      | (with_reducible exact curtilagelaw05_same.mono _ _ _ _ _ _ _)
      | (with_reducible exact curtilageref02_Fit.mono _ _)
      | (with_reducible exact intern_Add.mono _ _ _ _)
      | (with_reducible exact LeO.refl _)
      | (with_reducible exact LeO.none _)
      | (with_reducible refine LeO.ite ?_ ?_)
      | (with_reducible refine LeO.bind ?_ (fun _ => ?_))
      | exact ih0 _ _ _ _ _ _ _ _ _
      | exact ih1 _ _ _ _ _ _ _ _ _ _ _ _
      | exact ih2 _ _ _ _ _ _ _ _ _ _ _
      | exact ih3 _ _ _ _ _ _
      | exact curtilagelaw05_awake.mono _
      | exact curtilagelaw05_same.mono _ _ _ _ _ _ _
      | exact curtilageref02_Fit.mono _ _
      | exact intern_Add.mono _ _ _ _
      | exact LeO.none _
      | refine LeO.ite ?_ ?_
      | refine LeO.bind ?_ (fun _ => ?_)
    · intro y0 y1 y2 y3 y4 y5
      unfold curtilagelaw05_InternOnce.l1
      repeat' first
      | (with_reducible exact ih0 _ _ _ _ _ _ _ _ _)
      | (with_reducible exact ih1 _ _ _ _ _ _ _ _ _ _ _ _)
      | (with_reducible exact ih2 _ _ _ _ _ _ _ _ _ _ _)
      | (with_reducible exact ih3 _ _ _ _ _ _)
      | (with_reducible exact curtilagelaw05_awake.mono _)
      | (with_reducible exact curtilagelaw05_same.mono _ _ _ _ _ _ _)
      | (with_reducible exact curtilageref02_Fit.mono _ _)
      | (with_reducible exact intern_Add.mono _ _ _ _)
      | (with_reducible exact LeO.refl _)
      | (with_reducible exact LeO.none _)
      | (with_reducible refine LeO.ite ?_ ?_)
      | (with_reducible refine LeO.bind ?_ (fun _ => ?_))
      | exact ih0 _ _ _ _ _ _ _ _ _
      | exact ih1 _ _ _ _ _ _ _ _ _ _ _ _
      | exact ih2 _ _ _ _ _ _ _ _ _ _ _
      | exact ih3 _ _ _ _ _ _
      | exact curtilagelaw05_awake.mono _
      | exact curtilagelaw05_same.mono _ _ _ _ _ _ _
      | exact curtilageref02_Fit.mono _ _
      | exact intern_Add.mono _ _ _ _
      | exact LeO.none _
      | refine LeO.ite ?_ ?_
      | refine LeO.bind ?_ (fun _ => ?_)
theorem curtilagelaw05_InternOnce.mono : ∀ a0 a1 k, LeO (curtilagelaw05_InternOnce.f k a0 a1) (curtilagelaw05_InternOnce.f (k + 1) a0 a1) := by
  intro a0 a1 k
  obtain ⟨ih0, ih1, ih2, ih3⟩ := curtilagelaw05_InternOnce.mono_l k
  unfold curtilagelaw05_InternOnce.f
  repeat' first
      | (with_reducible exact ih0 _ _ _ _ _ _ _ _ _)
      | (with_reducible exact ih1 _ _ _ _ _ _ _ _ _ _ _ _)
      | (with_reducible exact ih2 _ _ _ _ _ _ _ _ _ _ _)
      | (with_reducible exact ih3 _ _ _ _ _ _)
      | (with_reducible exact curtilagelaw05_awake.mono _)
      | (with_reducible exact curtilagelaw05_same.mono _ _ _ _ _ _ _)
      | (with_reducible exact curtilageref02_Fit.mono _ _)
      | (with_reducible exact intern_Add.mono _ _ _ _)
      | (with_reducible exact LeO.refl _)
      | (with_reducible exact LeO.none _)
      | (with_reducible refine LeO.ite ?_ ?_)
      | (with_reducible refine LeO.bind ?_ (fun _ => ?_))
      | exact ih0 _ _ _ _ _ _ _ _ _
      | exact ih1 _ _ _ _ _ _ _ _ _ _ _ _
      | exact ih2 _ _ _ _ _ _ _ _ _ _ _
      | exact ih3 _ _ _ _ _ _
      | exact curtilagelaw05_awake.mono _
      | exact curtilagelaw05_same.mono _ _ _ _ _ _ _
      | exact curtilageref02_Fit.mono _ _
      | exact intern_Add.mono _ _ _ _
      | exact LeO.none _
      | refine LeO.ite ?_ ?_
      | refine LeO.bind ?_ (fun _ => ?_)
def curtilagelaw05_InternOnce.T16 : Bool × List (List Nat × List Nat) := (true, [([], []), ([], []), ([], []), ([2], [2]), ([1, 3], [1, 3]), ([4], [4]), ([0, 5], [0, 5]), ([6], [6]), ([7], [7]), ([7], [7]), ([], []), ([10, 8, 6, 0, 1, 2, 3, 4, 5, 6, 7, 8, 10], [8, 10]), ([9, 11, 0, 1, 2, 3, 4, 5, 6, 7, 8, 9, 10, 11], [9])])
def curtilagelaw05_InternOnce.B16 : List Nat := [0, 0, 0, 4, 14, 30, 63, 127, 255, 255, 0, 1535, 4095]
theorem curtilagelaw05_InternOnce.tab16 : rtab .any (opsOf Try.f3 16) = curtilagelaw05_InternOnce.T16 := by kernel_rfl
theorem curtilagelaw05_InternOnce.bits16 : waitsOk curtilagelaw05_InternOnce.T16.2 curtilagelaw05_InternOnce.B16 = true := by kernel_rfl
def curtilagelaw05_InternOnce.T27 : Bool × List (List Nat × List Nat) := (true, [([], []), ([], []), ([], []), ([1, 2], [1, 2]), ([3], [3]), ([0, 4], [0, 4]), ([5], [5]), ([6], [6]), ([6], [6]), ([], []), ([9, 7, 5, 0, 1, 2, 3, 4, 5, 6, 7, 9], [7, 9]), ([8, 10, 0, 1, 2, 3, 4, 5, 6, 7, 8, 9, 10], [8])])
def curtilagelaw05_InternOnce.B27 : List Nat := [0, 0, 0, 6, 14, 31, 63, 127, 127, 0, 767, 2047]
theorem curtilagelaw05_InternOnce.tab27 : rtab .any (opsOf Try.f3 27) = curtilagelaw05_InternOnce.T27 := by kernel_rfl
theorem curtilagelaw05_InternOnce.bits27 : waitsOk curtilagelaw05_InternOnce.T27.2 curtilagelaw05_InternOnce.B27 = true := by kernel_rfl
set_option maxHeartbeats 8000000 in
set_option maxRecDepth 100000 in
theorem curtilagelaw05_InternOnce.calls (k : Nat) (A0 : Option Addr) (c0 : Nat) (l0 : List (List (S57))) (A1 : Option Addr) (c1 : Nat) (l1 : List Bool) (w : World) (hr0 : Kd.C (Kd.slice 57 k57) w A0 l0.length l0) (hc0 : l0.length ≤ c0) (hr1 : Kd.C Kd.bool w A1 l1.length l1) (hc1 : l1.length ≤ c1) (h : curtilagelaw05_InternOnce.f k l0 l1 = some true) :
  Calls Try.prog 3 #[.slice A0 l0.length c0, .slice A1 l1.length c1] w fun e w' => e = .returned (.bool true) ∧ Below w.heap.size w w' := by
 have hu27 := Try.underlying27
 have HR0 := Aside0.mk hr0
 have HC0 := Aside0.mk hc0
 clear hr0 hc0
 have HR1 := Aside0.mk hr1
 have HC1 := Aside0.mk hc1
 clear hr1 hc1
 have HB := Aside0.mk (Below.refl w.heap.size w)
 have H : (if (l0.length : Int) > 60 then ((curtilagelaw05_awake.f k).bind fun t148 => (some t148)) else (if 0 ≤ (l0.length : Int) then (if ((l0.length : Int) : Int).toNat ≤ 35184372088832 then (if ((l0.length : Int) : Int).toNat ≤ 281474976710656 then (curtilagelaw05_InternOnce.l0 k l0 l1 (List.replicate ((l0.length : Int) : Int).toNat 0) (List.replicate ((l0.length : Int) : Int).toNat false) l0 (l0.length : Int) 0 ([] : List (List (S57))) ([] : List Int)) else (none)) else (none)) else (none))) = some true := h
 clear h
 by_cases c3 : (l0.length : Int) > 60
 ·rw [if_pos c3] at H
  have c3b0 : decide (60 < (l0.length : Int)) = true := decide_eq_true c3
  have c3b1 : decide (60 < l0.length) = true := decide_eq_true (by omega)
  clear c3
  replace H := Option.bind_eq_some_iff.mp H
  obtain ⟨t148, A40, H⟩ := H
  replace H : (some t148) = some true := H
  have A4 := Aside0.mk A40
  clear A40
  obtain rfl := Option.some.inj H
  go_enter Try.func3, Try.ntmps3
  go_wp2_with (first | ((with_reducible refine gate_callee (f := 6) rfl ?_); refine goesL_ (some 21) rfl rfl Try.func6 (by kernel_rfl) rfl #[] rfl (by (try simp only [List.map_toArray, List.map_cons, List.map_nil]); first | done | rfl | (simp only [List.length_drop, List.length_take]; rfl)) ?_; (with_reducible refine (curtilagelaw05_awake.calls k  true _ A4.out).mono ?_); rintro e w5 ⟨rfl, hb⟩; refine ⟨_, rfl, ?_⟩; have n0_ := Aside0.mk (below_step (by repeat (first | (with_reducible first | exact HB.out | apply below_alloc | apply pw_below_drewN | apply below_drew1) | exact HB.out)) hb); clear HB; have HB := n0_; clear n0_; (try clear hb); (try clear hb2); (try clear hk); (try clear hi)))
  go_ret
  exact ⟨by first | rfl | (simp [errW_none, errW_some] <;> rfl) | (simp [*, errW_none, errW_some] <;> rfl), by repeat (first | (with_reducible first | exact HB.out | apply below_alloc | apply pw_below_drewN | apply below_drew1) | exact HB.out)⟩
 ·rw [if_neg c3] at H
  have c3b0 : decide (60 < (l0.length : Int)) = false := decide_eq_false c3
  have c3b1 : decide (60 < l0.length) = false := decide_eq_false (by omega)
  clear c3
  by_cases c6 : 0 ≤ (l0.length : Int)
  ·rw [if_pos c6] at H
   have c6b0 := eq_true c6
   have c6b1 : decide (0 ≤ (l0.length : Int)) = true := decide_eq_true c6
   clear c6
   by_cases c7 : ((l0.length : Int) : Int).toNat ≤ 35184372088832
   ·rw [if_pos c7] at H
    have c7b0 := eq_true c7
    have c7b1 : decide (((l0.length : Int) : Int).toNat ≤ 35184372088832) = true := decide_eq_true c7
    clear c7
    obtain ⟨y150, hy150⟩ : ∃ y_ : List Int, y_ = (List.replicate ((l0.length : Int) : Int).toNat 0) := ⟨_, rfl⟩
    replace H : (if ((l0.length : Int) : Int).toNat ≤ 281474976710656 then (curtilagelaw05_InternOnce.l0 k l0 l1 y150 (List.replicate ((l0.length : Int) : Int).toNat false) l0 (l0.length : Int) 0 ([] : List (List (S57))) ([] : List Int)) else (none)) = some true := by first | (rw [hy150]; with_reducible exact H) | (have H2_ := (Option.bind_some _ _).symm.trans H; rw [hy150]; with_reducible exact H2_) | (have H2_ := (Option.bind_some _ _).symm.trans H; with_reducible exact H2_) | with_reducible exact H | (rw [hy150]; exact H) | exact H
    have Ny150 := Aside0.mk hy150
    clear hy150
    by_cases c8 : ((l0.length : Int) : Int).toNat ≤ 281474976710656
    ·rw [if_pos c8] at H
     have c8b0 := eq_true c8
     have c8b1 : decide (((l0.length : Int) : Int).toNat ≤ 281474976710656) = true := decide_eq_true c8
     clear c8
     obtain ⟨y153, hy153⟩ : ∃ y_ : List Bool, y_ = (List.replicate ((l0.length : Int) : Int).toNat false) := ⟨_, rfl⟩
     replace H : (curtilagelaw05_InternOnce.l0 k l0 l1 y150 y153 l0 (l0.length : Int) 0 ([] : List (List (S57))) ([] : List Int)) = some true := by first | (rw [hy153]; with_reducible exact H) | (have H2_ := (Option.bind_some _ _).symm.trans H; rw [hy153]; with_reducible exact H2_) | (have H2_ := (Option.bind_some _ _).symm.trans H; with_reducible exact H2_) | with_reducible exact H | (rw [hy153]; exact H) | exact H
     have Ny153 := Aside0.mk hy153
     clear hy153
     have H' := Aside0.mk H
     clear H
     go_enter Try.func3, Try.ntmps3
     go_wp2_with (first | ((with_reducible refine gate_dst (N := 5) rfl ?_); (try (refine gate_guard (by rfl) ?_; dsimp only)); refine box_event ?hg (N := 5) ?hd (cs := #[.slice none 0 0, .slice none 0 0]) (t := 27) ?hr ?_; (case hd => rfl); (case hg => rfl); (case hr => first | (go_simp; done) | (go_simp; rfl)); intro gb149 hg w9 hbox hb; have n0_ := Aside0.mk (below_step (by repeat (first | (with_reducible first | exact HB.out | apply below_alloc | apply pw_below_drewN | apply below_drew1) | exact HB.out)) hb); have n1_ := Aside0.mk (hbox); have n2_ := Aside0.mk ((by rw [hg]; exact (below_size (by repeat (first | (with_reducible first | exact HB.out | apply below_alloc | apply pw_below_drewN | apply below_drew1) | exact HB.out))) : w.heap.size ≤ gb149)); have n3_ := Aside0.mk ((by rw [hg]; exact (below_size (by repeat (first | (with_reducible first | exact HB.out | apply below_alloc | apply pw_below_drewN | apply below_drew1) | exact HB.out))) : w.heap.size ≤ gb149)); clear HB; have HB := n0_; have BK149 := n1_; have GW149 := n2_; have GE149 := n3_; clear n0_ n1_ n2_ n3_; clear hb hbox hg) | ((with_reducible refine gate_dst (N := 24) rfl ?_); (try (refine gate_guard (by rfl) ?_; dsimp only)); refine Kd.R_make (Kd.int .i64) _ 3 rfl (N := 24) rfl 25 _ _ rfl (l0.length : Int) rfl rfl Try.underlying25 (.int .i64 0) 8 info3 rfl (by decide) (by omega) 0 (ok := fun _ => True) (okp := fun _ => True) rfl (fun _ hk => hk) trivial (of_decide_eq_true (by first | (with_reducible assumption) | assumption)) (Nat.le_trans (Nat.mul_le_mul_right _ (of_decide_eq_true (by first | (with_reducible assumption) | assumption) : (l0.length : Int).toNat ≤ 35184372088832)) (by omega)) (Below.refl _ _) (Nat.le_refl _) ?_; intro v151 w10 ho11 hb hg_ hnew_; clear hg_ hnew_; (first | rw [← Ny150.out] at ho11 | (simp only [Int.reduceToNat] at ho11; rw [← Ny150.out] at ho11)); have n0_ := Aside0.mk (Kd.R_lower ho11 (below_size (by repeat (first | (with_reducible first | exact HB.out | apply below_alloc | apply pw_below_drewN | apply below_drew1 | refine below_set ?_ GE149.out) | exact HB.out)))); have n1_ := Aside0.mk (blk_below (g := gb149) (o := .cells #[.slice none 0 0, .slice none 0 0] 27 (0, 0)) (by (with_reducible repeat (first | refine blk_drewN ?_ _ | refine blk_drew ?_ | refine blk_alloc ?_ _)); exact BK149.out) hb); have n2_ := Aside0.mk (below_step (by repeat (first | (with_reducible first | exact HB.out | apply below_alloc | apply pw_below_drewN | apply below_drew1 | refine below_set ?_ GE149.out) | exact HB.out)) hb); clear BK149; clear HB; have HO152 := n0_; have BK149 := n1_; have HB := n2_; clear n0_ n1_ n2_; clear hb ho11) | ((with_reducible refine gate_dst (N := 27) rfl ?_); (try (refine gate_guard (by rfl) ?_; dsimp only)); refine Kd.R_make Kd.bool _ 4 rfl (N := 27) rfl 23 _ _ rfl (l0.length : Int) rfl rfl Try.underlying23 (.bool false) 1 info4 rfl (by decide) (by omega) false (ok := fun _ => True) (okp := fun _ => True) rfl (fun _ hk => hk) trivial (of_decide_eq_true (by first | (with_reducible assumption) | assumption)) (Nat.le_trans (Nat.mul_le_mul_right _ (of_decide_eq_true (by first | (with_reducible assumption) | assumption) : (l0.length : Int).toNat ≤ 281474976710656)) (by omega)) (Below.refl _ _) (Nat.le_refl _) ?_; intro v154 w12 ho13 hb hg_ hnew_; clear hg_ hnew_; (first | rw [← Ny153.out] at ho13 | (simp only [Int.reduceToNat] at ho13; rw [← Ny153.out] at ho13)); have n0_ := Aside0.mk (Kd.R_below (by (with_reducible repeat (first | apply Kd.R_alloc | apply Kd.R_drewN | apply Kd.R_drew)); exact HO152.out) hb); have n1_ := Aside0.mk (Kd.R_lower ho13 (below_size (by repeat (first | (with_reducible first | exact HB.out | apply below_alloc | apply pw_below_drewN | apply below_drew1 | refine below_set ?_ GE149.out) | exact HB.out)))); have n2_ := Aside0.mk (blk_below (g := gb149) (o := .cells #[.slice none 0 0, .slice none 0 0] 27 (0, 0)) (by (with_reducible repeat (first | refine blk_drewN ?_ _ | refine blk_drew ?_ | refine blk_alloc ?_ _)); exact BK149.out) hb); have n3_ := Aside0.mk (below_step (by repeat (first | (with_reducible first | exact HB.out | apply below_alloc | apply pw_below_drewN | apply below_drew1 | refine below_set ?_ GE149.out) | exact HB.out)) hb); clear HO152; clear BK149; clear HB; have HO152 := n0_; have HO155 := n1_; have BK149 := n2_; have HB := n3_; clear n0_ n1_ n2_ n3_; clear hb ho13))
     go_loopg [30] k (fun kq v30 w' => ∃ (x6_1 : List Int) (x7_1 : List Bool) (x30_1 : Int) (x150000_1 : List (List (S57))) (x150001_1 : List Int) (u150000 : Value) (u150001 : Value), v30 = .int .i64 x30_1 ∧ Aside0 (curtilagelaw05_InternOnce.l0 kq l0 l1 x6_1 x7_1 l0 (l0.length : Int) x30_1 x150000_1 x150001_1 = some true) ∧ Aside0 (kq ≤ k) ∧ Aside0 (Kd.R (Kd.int .i64) 3 w' w.heap.size (fun _ => True) v151 x6_1) ∧ Aside0 (Kd.R Kd.bool 4 w' w.heap.size (fun _ => True) v154 x7_1) ∧ Aside0 (Kd.V (Kd.slice 57 k57) 29 w' w.heap.size (fun k_ => some k_ ≠ (v151 : Value).ownBlock ∧ some k_ ≠ (v154 : Value).ownBlock ∧ k_ ≠ gb149) u150000 x150000_1) ∧ Aside0 (Kd.V (Kd.int .i64) 3 w' w.heap.size (fun k_ => some k_ ≠ (v151 : Value).ownBlock ∧ some k_ ≠ (v154 : Value).ownBlock ∧ k_ ≠ gb149) u150001 x150001_1) ∧ Aside0 (w'.heap[gb149]? = some (.cells #[u150000, u150001] 27 (0, 0))) ∧ Aside0 (Below w.heap.size w w'))
     case atStart => exact ⟨(y150), (y153), (0), (([] : List (List (S57)))), (([] : List Int)), (.slice none 0 0), (.slice none 0 0), (by first | rfl | (simp; done) | (simp [*]; done)), H', ⟨Nat.le_refl _⟩, ⟨by (with_reducible repeat (first | apply Kd.R_alloc | apply Kd.R_drewN | apply Kd.R_drew)); exact HO152.out⟩, ⟨by (with_reducible repeat (first | apply Kd.R_alloc | apply Kd.R_drewN | apply Kd.R_drew)); exact HO155.out⟩, ⟨Kd.V_nil _ _ _ _ _⟩, ⟨Kd.V_nil _ _ _ _ _⟩, ⟨by (with_reducible repeat (first | refine blk_drewN ?_ _ | refine blk_drew ?_ | refine blk_alloc ?_ _)); exact BK149.out⟩, ⟨by repeat (first | (with_reducible first | exact HB.out | apply below_alloc | apply pw_below_drewN | apply below_drew1 | refine below_set ?_ GE149.out) | exact HB.out)⟩⟩
     case round =>
      clear H'
      (try clear c1); (try clear p2); (try clear c3); (try clear c3b0); (try clear c3b1); (try clear c6); (try clear c6b0); (try clear c6b1); (try clear c7); (try clear c7b0); (try clear c7b1); (try clear c8); (try clear c8b0); (try clear c8b1)
      obtain ⟨x6_1, x7_1, x30_1, x150000_1, x150001_1, u150000, u150001, rfl, HA, HK1, HO_6, HO_7, HO_150000, HO_150001, BK149, HB⟩ := hrel
      cases gk with
      | zero => exact absurd HA.out (by simp [curtilagelaw05_InternOnce.l0])
      | succ k1 =>
       have H := HA.out
       clear HA
       simp only [curtilagelaw05_InternOnce.l0] at H
       by_cases c14 : x30_1 < (l0.length : Int)
       ·rw [if_pos c14] at H
        have c14b0 : decide (x30_1 < (l0.length : Int)) = true := decide_eq_true c14
        clear c14
        by_cases c15 : 0 ≤ x30_1
        ·rw [if_pos c15] at H
         have c15b0 : decide (0 ≤ x30_1) = true := decide_eq_true c15
         clear c15
         by_cases c16 : x30_1 < (l0.length : Int)
         ·rw [if_pos c16] at H
          have c16b0 : decide (x30_1 < (l0.length : Int)) = true := decide_eq_true c16
          clear c16
          have HC17 := Aside0.mk H
          clear H
          have p156 : 0 ≤ (x30_1 : Int) := of_decide_eq_true (by first | (with_reducible assumption) | assumption)
          have q156 : x30_1 < (l0.length : Int) := of_decide_eq_true (by first | (with_reducible assumption) | assumption)
          obtain ⟨ad156, A156_0, c156_0, e156, hx156_0, hl156_0, hi156_0⟩ := at_L3 HR0.out x30_1 p156 q156
          cases e156
          replace hx156_0 := (HB.out.cell (World.block_lt_of_cell? w _ hx156_0)).trans hx156_0
          have HR156_0 := Aside0.mk hi156_0
          have HC156_0 := Aside0.mk hl156_0
          clear hi156_0 hl156_0
          replace p156 := eq_true p156
          replace q156 := eq_true q156
          go_upto_region 9 with (fail)
          go_cut [42] (fun v42 wc => ∃ (kq : Nat) (x42_16 : Bool), v42 = .bool x42_16 ∧ Aside0 (curtilagelaw05_InternOnce.j1 kq l0 l1 x6_1 x7_1 x30_1 (rd_L3 l0 x30_1) l0 (l0.length : Int) x30_1 x42_16 x150000_1 x150001_1 = some true) ∧ Aside0 (kq ≤ k1) ∧ Aside0 (Kd.R (Kd.int .i64) 3 wc w.heap.size (fun _ => True) v151 x6_1) ∧ Aside0 (Kd.R Kd.bool 4 wc w.heap.size (fun _ => True) v154 x7_1) ∧ Aside0 (Kd.V (Kd.slice 57 k57) 29 wc w.heap.size (fun k_ => some k_ ≠ (v151 : Value).ownBlock ∧ some k_ ≠ (v154 : Value).ownBlock ∧ k_ ≠ gb149) u150000 x150000_1) ∧ Aside0 (Kd.V (Kd.int .i64) 3 wc w.heap.size (fun k_ => some k_ ≠ (v151 : Value).ownBlock ∧ some k_ ≠ (v154 : Value).ownBlock ∧ k_ ≠ gb149) u150001 x150001_1) ∧ Aside0 (wc.heap[gb149]? = some (.cells #[u150000, u150001] 27 (0, 0))) ∧ Aside0 (Below w.heap.size w wc))
          case first =>
           have H := HC17.out
           clear HC17
           replace H := Option.bind_eq_some_iff.mp H
           obtain ⟨t157, A180, H⟩ := H
           replace H : (if t157 = true then (curtilagelaw05_InternOnce.j1 k1 l0 l1 x6_1 x7_1 x30_1 (rd_L3 l0 x30_1) l0 (l0.length : Int) x30_1 (decide (((rd_L3 l0 x30_1).length : Int) > 16)) x150000_1 x150001_1) else (curtilagelaw05_InternOnce.j1 k1 l0 l1 x6_1 x7_1 x30_1 (rd_L3 l0 x30_1) l0 (l0.length : Int) x30_1 true x150000_1 x150001_1)) = some true := H
           have A18 := Aside0.mk A180
           clear A180
           by_cases c19 : t157 = true
           ·subst c19
            have H1 : (curtilagelaw05_InternOnce.j1 k1 l0 l1 x6_1 x7_1 x30_1 (rd_L3 l0 x30_1) l0 (l0.length : Int) x30_1 (decide (((rd_L3 l0 x30_1).length : Int) > 16)) x150000_1 x150001_1) = some true := by rw [if_pos rfl] at H; exact H
            clear H
            have H := H1
            clear H1
            have H' := Aside0.mk H
            clear H
            go_wp2_with (first | ((with_reducible refine gate_callee (f := 7) rfl ?_); refine goesL_ (some 36) rfl rfl Try.func7 (by kernel_rfl) rfl #[.slice A156_0 (rd_L3 l0 x30_1).length c156_0] rfl (by (try simp only [List.map_toArray, List.map_cons, List.map_nil]); first | done | rfl | (simp only [List.length_drop, List.length_take]; rfl)) ?_; (with_reducible refine (curtilageref02_Fit.calls k1 _ _ (rd_L3 l0 x30_1) true _ ?side1 ?side2 A18.out).mono ?_); (case side1 => repeat (first | exact (Kd.C_below HR156_0.out HB.out) | (with_reducible refine Kd.C_alloc ?_ _) | (with_reducible refine Kd.C_drewN ?_ _) | (with_reducible refine Kd.C_drew ?_))); (case side2 => exact HC156_0.out); rintro e w20 ⟨rfl, hb⟩; refine ⟨_, rfl, ?_⟩; have n0_ := Aside0.mk (Kd.R_below (by (with_reducible repeat (first | apply Kd.R_alloc | apply Kd.R_drewN | apply Kd.R_drew)); exact HO_6.out) hb); have n1_ := Aside0.mk (Kd.R_below (by (with_reducible repeat (first | apply Kd.R_alloc | apply Kd.R_drewN | apply Kd.R_drew)); exact HO_7.out) hb); have n2_ := Aside0.mk (Kd.V_below (by (with_reducible repeat (first | apply Kd.V_alloc | apply Kd.V_drewN | apply Kd.V_drew)); exact HO_150000.out) hb); have n3_ := Aside0.mk (Kd.V_below (by (with_reducible repeat (first | apply Kd.V_alloc | apply Kd.V_drewN | apply Kd.V_drew)); exact HO_150001.out) hb); have n4_ := Aside0.mk (blk_below (g := gb149) (o := .cells #[u150000, u150001] 27 (0, 0)) (by (with_reducible repeat (first | refine blk_drewN ?_ _ | refine blk_drew ?_ | refine blk_alloc ?_ _)); exact BK149.out) hb); have n5_ := Aside0.mk (below_step (by repeat (first | (with_reducible first | exact HB.out | apply below_alloc | apply pw_below_drewN | apply below_drew1 | refine below_set ?_ GE149.out) | exact HB.out)) hb); clear HO_6; clear HO_7; clear HO_150000; clear HO_150001; clear BK149; clear HB; have HO_6 := n0_; have HO_7 := n1_; have HO_150000 := n2_; have HO_150001 := n3_; have BK149 := n4_; have HB := n5_; clear n0_ n1_ n2_ n3_ n4_ n5_; (try clear hb); (try clear hb2); (try clear hk); (try clear hi)))
            go_meet
            case rel => exact ⟨_, (decide (((rd_L3 l0 x30_1).length : Int) > 16)), (by first | rfl | (simp; done) | (simp [*]; done)), H', ⟨by have := HK1.out; first | omega | exact Nat.le_refl _⟩, ⟨by (with_reducible repeat (first | apply Kd.R_alloc | apply Kd.R_drewN | apply Kd.R_drew)); exact HO_6.out⟩, ⟨by (with_reducible repeat (first | apply Kd.R_alloc | apply Kd.R_drewN | apply Kd.R_drew)); exact HO_7.out⟩, ⟨by (with_reducible repeat (first | apply Kd.V_alloc | apply Kd.V_drewN | apply Kd.V_drew)); exact HO_150000.out⟩, ⟨by (with_reducible repeat (first | apply Kd.V_alloc | apply Kd.V_drewN | apply Kd.V_drew)); exact HO_150001.out⟩, ⟨by (with_reducible repeat (first | refine blk_drewN ?_ _ | refine blk_drew ?_ | refine blk_alloc ?_ _)); exact BK149.out⟩, ⟨by repeat (first | (with_reducible first | exact HB.out | apply below_alloc | apply pw_below_drewN | apply below_drew1 | refine below_set ?_ GE149.out) | exact HB.out)⟩⟩
           ·replace c19 := Bool.eq_false_iff.mpr c19
            subst c19
            have H1 : (curtilagelaw05_InternOnce.j1 k1 l0 l1 x6_1 x7_1 x30_1 (rd_L3 l0 x30_1) l0 (l0.length : Int) x30_1 true x150000_1 x150001_1) = some true := by rw [if_neg (show ¬ (false = true) by decide)] at H; exact H
            clear H
            have H := H1
            clear H1
            have H' := Aside0.mk H
            clear H
            go_wp2_with (first | ((with_reducible refine gate_callee (f := 7) rfl ?_); refine goesL_ (some 36) rfl rfl Try.func7 (by kernel_rfl) rfl #[.slice A156_0 (rd_L3 l0 x30_1).length c156_0] rfl (by (try simp only [List.map_toArray, List.map_cons, List.map_nil]); first | done | rfl | (simp only [List.length_drop, List.length_take]; rfl)) ?_; (with_reducible refine (curtilageref02_Fit.calls k1 _ _ (rd_L3 l0 x30_1) false _ ?side1 ?side2 A18.out).mono ?_); (case side1 => repeat (first | exact (Kd.C_below HR156_0.out HB.out) | (with_reducible refine Kd.C_alloc ?_ _) | (with_reducible refine Kd.C_drewN ?_ _) | (with_reducible refine Kd.C_drew ?_))); (case side2 => exact HC156_0.out); rintro e w21 ⟨rfl, hb⟩; refine ⟨_, rfl, ?_⟩; have n0_ := Aside0.mk (Kd.R_below (by (with_reducible repeat (first | apply Kd.R_alloc | apply Kd.R_drewN | apply Kd.R_drew)); exact HO_6.out) hb); have n1_ := Aside0.mk (Kd.R_below (by (with_reducible repeat (first | apply Kd.R_alloc | apply Kd.R_drewN | apply Kd.R_drew)); exact HO_7.out) hb); have n2_ := Aside0.mk (Kd.V_below (by (with_reducible repeat (first | apply Kd.V_alloc | apply Kd.V_drewN | apply Kd.V_drew)); exact HO_150000.out) hb); have n3_ := Aside0.mk (Kd.V_below (by (with_reducible repeat (first | apply Kd.V_alloc | apply Kd.V_drewN | apply Kd.V_drew)); exact HO_150001.out) hb); have n4_ := Aside0.mk (blk_below (g := gb149) (o := .cells #[u150000, u150001] 27 (0, 0)) (by (with_reducible repeat (first | refine blk_drewN ?_ _ | refine blk_drew ?_ | refine blk_alloc ?_ _)); exact BK149.out) hb); have n5_ := Aside0.mk (below_step (by repeat (first | (with_reducible first | exact HB.out | apply below_alloc | apply pw_below_drewN | apply below_drew1 | refine below_set ?_ GE149.out) | exact HB.out)) hb); clear HO_6; clear HO_7; clear HO_150000; clear HO_150001; clear BK149; clear HB; have HO_6 := n0_; have HO_7 := n1_; have HO_150000 := n2_; have HO_150001 := n3_; have BK149 := n4_; have HB := n5_; clear n0_ n1_ n2_ n3_ n4_ n5_; (try clear hb); (try clear hb2); (try clear hk); (try clear hi)))
            go_meet
            case rel => exact ⟨_, (true), (by first | rfl | (simp; done) | (simp [*]; done)), H', ⟨by have := HK1.out; first | omega | exact Nat.le_refl _⟩, ⟨by (with_reducible repeat (first | apply Kd.R_alloc | apply Kd.R_drewN | apply Kd.R_drew)); exact HO_6.out⟩, ⟨by (with_reducible repeat (first | apply Kd.R_alloc | apply Kd.R_drewN | apply Kd.R_drew)); exact HO_7.out⟩, ⟨by (with_reducible repeat (first | apply Kd.V_alloc | apply Kd.V_drewN | apply Kd.V_drew)); exact HO_150000.out⟩, ⟨by (with_reducible repeat (first | apply Kd.V_alloc | apply Kd.V_drewN | apply Kd.V_drew)); exact HO_150001.out⟩, ⟨by (with_reducible repeat (first | refine blk_drewN ?_ _ | refine blk_drew ?_ | refine blk_alloc ?_ _)); exact BK149.out⟩, ⟨by repeat (first | (with_reducible first | exact HB.out | apply below_alloc | apply pw_below_drewN | apply below_drew1 | refine below_set ?_ GE149.out) | exact HB.out)⟩⟩
          case rest =>
           clear HC17
           (try clear c1); (try clear p1); (try clear q1); (try clear hx1); (try clear p2); (try clear c3); (try clear c3b0); (try clear c3b1); (try clear c6); (try clear c6b0); (try clear c6b1); (try clear c7); (try clear c7b0); (try clear c7b1); (try clear c8); (try clear c8b0); (try clear c8b1); (try clear c14); (try clear c14b0); (try clear c15); (try clear c15b0); (try clear p15); (try clear q15); (try clear hx15); (try clear c16); (try clear c16b0); (try clear c19); (try clear hx156_0); (try clear p156); (try clear p2); (try clear q156)
           obtain ⟨kq, x42_16, rfl, HA, HJ16, HO_6, HO_7, HO_150000, HO_150001, BK149, HB⟩ := hcut
           cases kq with
           | zero => exact absurd HA.out (by simp [curtilagelaw05_InternOnce.j1])
           | succ kj16 =>
            have H := HA.out
            clear HA
            simp only [curtilagelaw05_InternOnce.j1] at H
            by_cases c22 : x42_16 = true
            ·subst c22
             have H1 : ((curtilagelaw05_awake.f kj16).bind fun t158 => (some t158)) = some true := by rw [if_pos rfl] at H; exact H
             clear H
             have H := H1
             clear H1
             replace H := Option.bind_eq_some_iff.mp H
             obtain ⟨t158, A230, H⟩ := H
             replace H : (some t158) = some true := H
             have A23 := Aside0.mk A230
             clear A230
             obtain rfl := Option.some.inj H
             go_wp2_with (first | ((with_reducible refine gate_callee (f := 6) rfl ?_); refine goesL_ (some 43) rfl rfl Try.func6 (by kernel_rfl) rfl #[] rfl (by (try simp only [List.map_toArray, List.map_cons, List.map_nil]); first | done | rfl | (simp only [List.length_drop, List.length_take]; rfl)) ?_; (with_reducible refine (curtilagelaw05_awake.calls kj16  true _ A23.out).mono ?_); rintro e w24 ⟨rfl, hb⟩; refine ⟨_, rfl, ?_⟩; have n0_ := Aside0.mk (Kd.R_below (by (with_reducible repeat (first | apply Kd.R_alloc | apply Kd.R_drewN | apply Kd.R_drew)); exact HO_6.out) hb); have n1_ := Aside0.mk (Kd.R_below (by (with_reducible repeat (first | apply Kd.R_alloc | apply Kd.R_drewN | apply Kd.R_drew)); exact HO_7.out) hb); have n2_ := Aside0.mk (Kd.V_below (by (with_reducible repeat (first | apply Kd.V_alloc | apply Kd.V_drewN | apply Kd.V_drew)); exact HO_150000.out) hb); have n3_ := Aside0.mk (Kd.V_below (by (with_reducible repeat (first | apply Kd.V_alloc | apply Kd.V_drewN | apply Kd.V_drew)); exact HO_150001.out) hb); have n4_ := Aside0.mk (blk_below (g := gb149) (o := .cells #[u150000, u150001] 27 (0, 0)) (by (with_reducible repeat (first | refine blk_drewN ?_ _ | refine blk_drew ?_ | refine blk_alloc ?_ _)); exact BK149.out) hb); have n5_ := Aside0.mk (below_step (by repeat (first | (with_reducible first | exact HB.out | apply below_alloc | apply pw_below_drewN | apply below_drew1 | refine below_set ?_ GE149.out) | exact HB.out)) hb); clear HO_6; clear HO_7; clear HO_150000; clear HO_150001; clear BK149; clear HB; have HO_6 := n0_; have HO_7 := n1_; have HO_150000 := n2_; have HO_150001 := n3_; have BK149 := n4_; have HB := n5_; clear n0_ n1_ n2_ n3_ n4_ n5_; (try clear hb); (try clear hb2); (try clear hk); (try clear hi)))
             go_ret
             exact ⟨by first | rfl | (simp [errW_none, errW_some] <;> rfl) | (simp [*, errW_none, errW_some] <;> rfl), by repeat (first | (with_reducible first | exact HB.out | apply below_alloc | apply pw_below_drewN | apply below_drew1 | refine below_set ?_ GE149.out) | exact HB.out)⟩
            ·replace c22 := Bool.eq_false_iff.mpr c22
             subst c22
             have H1 : ((intern_Add.f kj16 x150000_1 x150001_1 (rd_L3 l0 x30_1)).bind fun bt159 => (if bt159.2.2.2 = 0 then (if 0 ≤ x30_1 then (if x30_1 < (x6_1.length : Int) then ((some (x6_1.set (x30_1 : Int).toNat bt159.2.2.1 : List Int)).bind fun y168 => (if x30_1 < (l1.length : Int) then (if rdOf false l1 x30_1 = true then (if 0 ≤ (wrap64 (Int.tdiv x30_1 2)) then (if (wrap64 (Int.tdiv x30_1 2)) < (x7_1.length : Int) then (curtilagelaw05_InternOnce.j2 kj16 l0 l1 y168 x7_1 x30_1 l0 (l0.length : Int) x30_1 (!(rdOf false x7_1 (wrap64 (Int.tdiv x30_1 2)))) bt159.1 bt159.2.1) else (none)) else (none)) else (curtilagelaw05_InternOnce.j2 kj16 l0 l1 y168 x7_1 x30_1 l0 (l0.length : Int) x30_1 false bt159.1 bt159.2.1)) else (curtilagelaw05_InternOnce.j2 kj16 l0 l1 y168 x7_1 x30_1 l0 (l0.length : Int) x30_1 false bt159.1 bt159.2.1))) else (none)) else (none)) else (some false))) = some true := by rw [if_neg (show ¬ (false = true) by decide)] at H; exact H
             clear H
             have H := H1
             clear H1
             replace H := Option.bind_eq_some_iff.mp H
             obtain ⟨⟨t159, t162, t165, t166⟩, A250, H⟩ := H
             replace H : (if t166 = 0 then (if 0 ≤ x30_1 then (if x30_1 < (x6_1.length : Int) then ((some (x6_1.set (x30_1 : Int).toNat t165 : List Int)).bind fun y168 => (if x30_1 < (l1.length : Int) then (if rdOf false l1 x30_1 = true then (if 0 ≤ (wrap64 (Int.tdiv x30_1 2)) then (if (wrap64 (Int.tdiv x30_1 2)) < (x7_1.length : Int) then (curtilagelaw05_InternOnce.j2 kj16 l0 l1 y168 x7_1 x30_1 l0 (l0.length : Int) x30_1 (!(rdOf false x7_1 (wrap64 (Int.tdiv x30_1 2)))) t159 t162) else (none)) else (none)) else (curtilagelaw05_InternOnce.j2 kj16 l0 l1 y168 x7_1 x30_1 l0 (l0.length : Int) x30_1 false t159 t162)) else (curtilagelaw05_InternOnce.j2 kj16 l0 l1 y168 x7_1 x30_1 l0 (l0.length : Int) x30_1 false t159 t162))) else (none)) else (none)) else (some false)) = some true := H
             have A25 := Aside0.mk A250
             clear A250
             by_cases c26 : t166 = 0
             ·rw [if_pos c26] at H
              have c26b0 : (t166 == 0) = true := beq_iff_eq.mpr c26
              have c26b1 : (t166 != 0) = false := bne_eq_false_iff_eq.mpr c26
              clear c26
              by_cases c27 : 0 ≤ x30_1
              ·rw [if_pos c27] at H
               have c27b0 : decide (0 ≤ x30_1) = true := decide_eq_true c27
               clear c27
               by_cases c28 : x30_1 < (x6_1.length : Int)
               ·rw [if_pos c28] at H
                have c28b0 : decide (x30_1 < (x6_1.length : Int)) = true := decide_eq_true c28
                clear c28
                obtain ⟨y168, hy168⟩ : ∃ y_ : List Int, y_ = (x6_1.set (x30_1 : Int).toNat t165) := ⟨_, rfl⟩
                replace H : (if x30_1 < (l1.length : Int) then (if rdOf false l1 x30_1 = true then (if 0 ≤ (wrap64 (Int.tdiv x30_1 2)) then (if (wrap64 (Int.tdiv x30_1 2)) < (x7_1.length : Int) then (curtilagelaw05_InternOnce.j2 kj16 l0 l1 y168 x7_1 x30_1 l0 (l0.length : Int) x30_1 (!(rdOf false x7_1 (wrap64 (Int.tdiv x30_1 2)))) t159 t162) else (none)) else (none)) else (curtilagelaw05_InternOnce.j2 kj16 l0 l1 y168 x7_1 x30_1 l0 (l0.length : Int) x30_1 false t159 t162)) else (curtilagelaw05_InternOnce.j2 kj16 l0 l1 y168 x7_1 x30_1 l0 (l0.length : Int) x30_1 false t159 t162)) = some true := by first | (rw [hy168]; with_reducible exact H) | (have H2_ := (Option.bind_some _ _).symm.trans H; rw [hy168]; with_reducible exact H2_) | (have H2_ := (Option.bind_some _ _).symm.trans H; with_reducible exact H2_) | with_reducible exact H | (rw [hy168]; exact H) | exact H
                have Ny168 := Aside0.mk hy168
                clear hy168
                have HC30 := Aside0.mk H
                clear H
                have hcz31_0 : wc.cell? ⟨gb149, 0, none⟩ = some (u150000) := (blk_cell BK149.out 0).trans rfl
                have hcz31_1 : wc.cell? ⟨gb149, 1, none⟩ = some (u150001) := (blk_cell BK149.out 1).trans rfl
                have hfz31_0 := blk_frozen BK149.out 0
                have hfz31_1 := blk_frozen BK149.out 1
                obtain ⟨Ao32, co32, eo32⟩ := Kd.V_slice HO_150000.out
                subst eo32
                obtain ⟨Ao33, co33, eo33⟩ := Kd.V_slice HO_150001.out
                subst eo33
                go_upto_region 15 with (first | ((with_reducible refine gate_callee (f := 8) rfl ?_); refine goesL_ (some 47) rfl rfl Try.func8 (by kernel_rfl) rfl #[.agg #[.slice Ao32 x150000_1.length co32, .slice Ao33 x150001_1.length co33], .slice A156_0 (rd_L3 l0 x30_1).length c156_0] rfl (by (try simp only [List.map_toArray, List.map_cons, List.map_nil]); first | done | rfl | (simp only [List.length_drop, List.length_take]; rfl)) ?_; (with_reducible refine (intern_Add.calls kj16 (fun k_ => (some k_ ≠ (v151 : Value).ownBlock ∧ (some k_ ≠ (v154 : Value).ownBlock ∧ k_ ≠ gb149))) _ _ x150000_1 (fun k_ => (some k_ ≠ (v151 : Value).ownBlock ∧ (some k_ ≠ (v154 : Value).ownBlock ∧ k_ ≠ gb149))) _ _ x150001_1 _ _ (rd_L3 l0 x30_1) t159 t162 t165 t166 _ ?side1 ?side2 ?side3 ?side4 A25.out).mono ?_); (case side1 => exact HO_150000.out); (case side2 => exact HO_150001.out); (case side3 => repeat (first | exact (Kd.C_below HR156_0.out HB.out) | (with_reducible refine Kd.C_alloc ?_ _) | (with_reducible refine Kd.C_drewN ?_ _) | (with_reducible refine Kd.C_drew ?_))); (case side4 => exact HC156_0.out); rintro e w34 ⟨v160, v163, rfl, ho0, ho1, hb⟩; refine ⟨_, rfl, ?_⟩; have n0_ := Aside0.mk (Kd.R_below (by (with_reducible repeat (first | apply Kd.R_alloc | apply Kd.R_drewN | apply Kd.R_drew)); exact HO_6.out) hb); have n1_ := Aside0.mk (Kd.R_below (by (with_reducible repeat (first | apply Kd.R_alloc | apply Kd.R_drewN | apply Kd.R_drew)); exact HO_7.out) hb); have n2_ := Aside0.mk (Kd.V_below (by (with_reducible repeat (first | apply Kd.V_alloc | apply Kd.V_drewN | apply Kd.V_drew)); exact HO_150000.out) hb); have n3_ := Aside0.mk (Kd.V_below (by (with_reducible repeat (first | apply Kd.V_alloc | apply Kd.V_drewN | apply Kd.V_drew)); exact HO_150001.out) hb); have n4_ := Aside0.mk (Kd.V_lower (Kd.V_mono (ok' := fun k_ => some k_ ≠ (v151 : Value).ownBlock ∧ some k_ ≠ (v154 : Value).ownBlock ∧ k_ ≠ gb149) ho0 (fun k_ hk_ => ⟨Or.elim hk_ (fun hs_ => Or.elim hs_ (fun hs_ => hs_.1) (fun hs_ => hs_.1)) (fun hn_ => (Kd.fresh' (Kd.R_lt (by (with_reducible repeat (first | apply Kd.R_alloc | apply Kd.R_drewN | apply Kd.R_drew)); exact HO_6.out)) k_ hn_)), Or.elim hk_ (fun hs_ => Or.elim hs_ (fun hs_ => hs_.2.1) (fun hs_ => hs_.2.1)) (fun hn_ => (Kd.fresh' (Kd.R_lt (by (with_reducible repeat (first | apply Kd.R_alloc | apply Kd.R_drewN | apply Kd.R_drew)); exact HO_7.out)) k_ hn_)), Or.elim hk_ (fun hs_ => Or.elim hs_ (fun hs_ => hs_.2.2) (fun hs_ => hs_.2.2)) (fun hn_ => (Kd.freshB (g := gb149) (o := .cells #[.slice Ao32 x150000_1.length co32, .slice Ao33 x150001_1.length co33] 27 (0, 0)) (by (with_reducible repeat (first | refine blk_drewN ?_ _ | refine blk_drew ?_ | refine blk_alloc ?_ _)); exact BK149.out) k_ hn_))⟩)) (below_size (by repeat (first | (with_reducible first | exact HB.out | apply below_alloc | apply pw_below_drewN | apply below_drew1 | refine below_set ?_ GE149.out) | exact HB.out)))); have n5_ := Aside0.mk (Kd.V_lower (Kd.V_mono (ok' := fun k_ => some k_ ≠ (v151 : Value).ownBlock ∧ some k_ ≠ (v154 : Value).ownBlock ∧ k_ ≠ gb149) ho1 (fun k_ hk_ => ⟨Or.elim hk_ (fun hs_ => Or.elim hs_ (fun hs_ => hs_.1) (fun hs_ => hs_.1)) (fun hn_ => (Kd.fresh' (Kd.R_lt (by (with_reducible repeat (first | apply Kd.R_alloc | apply Kd.R_drewN | apply Kd.R_drew)); exact HO_6.out)) k_ hn_)), Or.elim hk_ (fun hs_ => Or.elim hs_ (fun hs_ => hs_.2.1) (fun hs_ => hs_.2.1)) (fun hn_ => (Kd.fresh' (Kd.R_lt (by (with_reducible repeat (first | apply Kd.R_alloc | apply Kd.R_drewN | apply Kd.R_drew)); exact HO_7.out)) k_ hn_)), Or.elim hk_ (fun hs_ => Or.elim hs_ (fun hs_ => hs_.2.2) (fun hs_ => hs_.2.2)) (fun hn_ => (Kd.freshB (g := gb149) (o := .cells #[.slice Ao32 x150000_1.length co32, .slice Ao33 x150001_1.length co33] 27 (0, 0)) (by (with_reducible repeat (first | refine blk_drewN ?_ _ | refine blk_drew ?_ | refine blk_alloc ?_ _)); exact BK149.out) k_ hn_))⟩)) (below_size (by repeat (first | (with_reducible first | exact HB.out | apply below_alloc | apply pw_below_drewN | apply below_drew1 | refine below_set ?_ GE149.out) | exact HB.out)))); have n6_ := Aside0.mk (blk_below (g := gb149) (o := .cells #[.slice Ao32 x150000_1.length co32, .slice Ao33 x150001_1.length co33] 27 (0, 0)) (by (with_reducible repeat (first | refine blk_drewN ?_ _ | refine blk_drew ?_ | refine blk_alloc ?_ _)); exact BK149.out) hb); have n7_ := Aside0.mk (below_step (by repeat (first | (with_reducible first | exact HB.out | apply below_alloc | apply pw_below_drewN | apply below_drew1 | refine below_set ?_ GE149.out) | exact HB.out)) hb); clear HO_6; clear HO_7; clear HO_150000; clear HO_150001; clear BK149; clear HB; have HO_6 := n0_; have HO_7 := n1_; have HO_150000 := n2_; have HO_150001 := n3_; have HO161 := n4_; have HO164 := n5_; have BK149 := n6_; have HB := n7_; clear n0_ n1_ n2_ n3_ n4_ n5_ n6_ n7_; (try clear hb); (try clear hb2); (try clear hk); (try clear hi); (try clear ho0); (try clear ho1)) | ((with_reducible refine gate_dst (N := 10) rfl ?_); (try (refine gate_guard (by rfl) ?_; dsimp only)); refine box_event ?hg (N := 10) ?hd (cs := #[.slice none 0 0, .slice none 0 0]) (t := 27) ?hr ?_; (case hd => rfl); (case hg => rfl); (case hr => first | (go_simp; done) | (go_simp; rfl)); intro gb167 hg w35 hbox hb; have n0_ := Aside0.mk (Kd.R_below (by (with_reducible repeat (first | apply Kd.R_alloc | apply Kd.R_drewN | apply Kd.R_drew)); exact HO_6.out) hb); have n1_ := Aside0.mk (Kd.R_below (by (with_reducible repeat (first | apply Kd.R_alloc | apply Kd.R_drewN | apply Kd.R_drew)); exact HO_7.out) hb); have n2_ := Aside0.mk (Kd.V_below (Kd.V_elderB (by (with_reducible repeat (first | apply Kd.V_alloc | apply Kd.V_drewN | apply Kd.V_drew)); exact HO_150000.out) gb167 (Nat.le_of_eq hg.symm)) hb); have n3_ := Aside0.mk (Kd.V_below (Kd.V_elderB (by (with_reducible repeat (first | apply Kd.V_alloc | apply Kd.V_drewN | apply Kd.V_drew)); exact HO_150001.out) gb167 (Nat.le_of_eq hg.symm)) hb); have n4_ := Aside0.mk (Kd.V_below (Kd.V_elderB (by (with_reducible repeat (first | apply Kd.V_alloc | apply Kd.V_drewN | apply Kd.V_drew)); exact HO161.out) gb167 (Nat.le_of_eq hg.symm)) hb); have n5_ := Aside0.mk (Kd.V_below (Kd.V_elderB (by (with_reducible repeat (first | apply Kd.V_alloc | apply Kd.V_drewN | apply Kd.V_drew)); exact HO164.out) gb167 (Nat.le_of_eq hg.symm)) hb); have n6_ := Aside0.mk (blk_below (g := gb149) (o := .cells #[.slice Ao32 x150000_1.length co32, .slice Ao33 x150001_1.length co33] 27 (0, 0)) (by (with_reducible repeat (first | refine blk_drewN ?_ _ | refine blk_drew ?_ | refine blk_alloc ?_ _)); exact BK149.out) hb); have n7_ := Aside0.mk (below_step (by repeat (first | (with_reducible first | exact HB.out | apply below_alloc | apply pw_below_drewN | apply below_drew1 | refine below_set ?_ GE149.out) | exact HB.out)) hb); have n8_ := Aside0.mk (hbox); have n9_ := Aside0.mk ((by rw [hg]; exact (below_size (by repeat (first | (with_reducible first | exact HB.out | apply below_alloc | apply pw_below_drewN | apply below_drew1 | refine below_set ?_ GE149.out) | exact HB.out))) : w.heap.size ≤ gb167)); have n10_ := Aside0.mk ((by rw [hg]; exact (below_size (by repeat (first | (with_reducible first | exact HB.out | apply below_alloc | apply pw_below_drewN | apply below_drew1 | refine below_set ?_ GE149.out) | exact HB.out))) : w.heap.size ≤ gb167)); have n11_ := Aside0.mk ((by rw [hg]; exact Nat.ne_of_lt (blk_lt (g := gb149) (o := .cells #[.slice Ao32 x150000_1.length co32, .slice Ao33 x150001_1.length co33] 27 (0, 0)) (by (with_reducible repeat (first | refine blk_drewN ?_ _ | refine blk_drew ?_ | refine blk_alloc ?_ _)); exact BK149.out)) : gb149 ≠ gb167)); have n12_ := Aside0.mk ((by rw [hg]; exact Nat.ne_of_gt (blk_lt (g := gb149) (o := .cells #[.slice Ao32 x150000_1.length co32, .slice Ao33 x150001_1.length co33] 27 (0, 0)) (by (with_reducible repeat (first | refine blk_drewN ?_ _ | refine blk_drew ?_ | refine blk_alloc ?_ _)); exact BK149.out)) : gb167 ≠ gb149)); clear HO_6; clear HO_7; clear HO_150000; clear HO_150001; clear HO161; clear HO164; clear BK149; clear HB; have HO_6 := n0_; have HO_7 := n1_; have HO_150000 := n2_; have HO_150001 := n3_; have HO161 := n4_; have HO164 := n5_; have BK149 := n6_; have HB := n7_; have BK167 := n8_; have GW167 := n9_; have GE167 := n10_; have NB149_167 := n11_; have NB167_149 := n12_; clear n0_ n1_ n2_ n3_ n4_ n5_ n6_ n7_ n8_ n9_ n10_ n11_ n12_; clear hb hbox hg; obtain ⟨Ao36, co36, eo36⟩ := Kd.V_slice HO161.out; subst eo36; have hnb37 := NB167_149.out; have hnc37 := NB149_167.out; have hcz38_0 : w35.cell? ⟨gb167, 0, none⟩ = some (.slice none 0 0) := (blk_cell BK167.out 0).trans rfl; have hcz38_1 : w35.cell? ⟨gb167, 1, none⟩ = some (.slice none 0 0) := (blk_cell BK167.out 1).trans rfl; have hfz38_0 := blk_frozen BK167.out 0; have hfz38_1 := blk_frozen BK167.out 1; obtain ⟨Ao39, co39, eo39⟩ := Kd.V_slice HO164.out; subst eo39) | ((with_reducible refine gate_store (t := 27) (p := 10) rfl ?_); refine store_event (t := 27) (p := 10) (v := ?vo_w40) (w1 := ((w35.setCell ⟨gb167, 0, none⟩ (.slice Ao36 t159.length co36)).setCell ⟨gb167, 1, none⟩ (.slice Ao39 t162.length co39))) ?hg ?ho ?hn ?hr ?_; (case ho => rfl); (case hg => rfl); (case hn => rfl); (case hr => first | (go_simp; done) | (go_simp; rfl)); intro w40 hw; have n0_ : Aside0 (Kd.R (Kd.int .i64) 3 w40 w.heap.size (fun _ => True) v151 x6_1) := ⟨(by rw [hw]; exact (by (with_reducible repeat (first | apply Kd.R_alloc | apply Kd.R_drewN | apply Kd.R_drew)); exact Kd.R_mono (Kd.R_far (p := ⟨gb167, 1, none⟩) (Kd.R_far (p := ⟨gb167, 0, none⟩) (Kd.R_types HO_6.out BK167.out (by decide)) (fun _ hk => hk.2) (.slice Ao36 t159.length co36)) (fun _ hk => hk.2) (.slice Ao39 t162.length co39)) (fun _ hk => trivial)))⟩; have n1_ : Aside0 (Kd.R Kd.bool 4 w40 w.heap.size (fun _ => True) v154 x7_1) := ⟨(by rw [hw]; exact (by (with_reducible repeat (first | apply Kd.R_alloc | apply Kd.R_drewN | apply Kd.R_drew)); exact Kd.R_mono (Kd.R_far (p := ⟨gb167, 1, none⟩) (Kd.R_far (p := ⟨gb167, 0, none⟩) (Kd.R_types HO_7.out BK167.out (by decide)) (fun _ hk => hk.2) (.slice Ao36 t159.length co36)) (fun _ hk => hk.2) (.slice Ao39 t162.length co39)) (fun _ hk => trivial)))⟩; have n2_ : Aside0 (Kd.V (Kd.slice 57 k57) 29 w40 w.heap.size (fun k_ => some k_ ≠ (v151 : Value).ownBlock ∧ some k_ ≠ (v154 : Value).ownBlock ∧ k_ ≠ gb149 ∧ k_ ≠ gb167) (.slice Ao32 x150000_1.length co32) x150000_1) := ⟨(by rw [hw]; exact (by (with_reducible repeat (first | apply Kd.V_alloc | apply Kd.V_drewN | apply Kd.V_drew)); exact Kd.V_mono (Kd.V_far (p := ⟨gb167, 1, none⟩) (Kd.V_far (p := ⟨gb167, 0, none⟩) (Kd.V_mono HO_150000.out (fun k_ hk => (⟨hk, hk.2⟩ : _ ∧ k_ ≠ gb167))) (fun _ hk => hk.2) (.slice Ao36 t159.length co36)) (fun _ hk => hk.2) (.slice Ao39 t162.length co39)) (fun _ hk => ⟨hk.1.1.1, ⟨hk.1.1.2.1, ⟨hk.1.1.2.2, hk.1.2⟩⟩⟩)))⟩; have n3_ : Aside0 (Kd.V (Kd.int .i64) 3 w40 w.heap.size (fun k_ => some k_ ≠ (v151 : Value).ownBlock ∧ some k_ ≠ (v154 : Value).ownBlock ∧ k_ ≠ gb149 ∧ k_ ≠ gb167) (.slice Ao33 x150001_1.length co33) x150001_1) := ⟨(by rw [hw]; exact (by (with_reducible repeat (first | apply Kd.V_alloc | apply Kd.V_drewN | apply Kd.V_drew)); exact Kd.V_mono (Kd.V_far (p := ⟨gb167, 1, none⟩) (Kd.V_far (p := ⟨gb167, 0, none⟩) (Kd.V_mono HO_150001.out (fun k_ hk => (⟨hk, hk.2⟩ : _ ∧ k_ ≠ gb167))) (fun _ hk => hk.2) (.slice Ao36 t159.length co36)) (fun _ hk => hk.2) (.slice Ao39 t162.length co39)) (fun _ hk => ⟨hk.1.1.1, ⟨hk.1.1.2.1, ⟨hk.1.1.2.2, hk.1.2⟩⟩⟩)))⟩; have n4_ : Aside0 (Kd.V (Kd.slice 57 k57) 29 w40 w.heap.size (fun k_ => some k_ ≠ (v151 : Value).ownBlock ∧ some k_ ≠ (v154 : Value).ownBlock ∧ k_ ≠ gb149 ∧ k_ ≠ gb167) (.slice Ao36 t159.length co36) t159) := ⟨(by rw [hw]; exact (by (with_reducible repeat (first | apply Kd.V_alloc | apply Kd.V_drewN | apply Kd.V_drew)); exact Kd.V_mono (Kd.V_far (p := ⟨gb167, 1, none⟩) (Kd.V_far (p := ⟨gb167, 0, none⟩) (Kd.V_mono HO161.out (fun k_ hk => (⟨hk, hk.2⟩ : _ ∧ k_ ≠ gb167))) (fun _ hk => hk.2) (.slice Ao36 t159.length co36)) (fun _ hk => hk.2) (.slice Ao39 t162.length co39)) (fun _ hk => ⟨hk.1.1.1, ⟨hk.1.1.2.1, ⟨hk.1.1.2.2, hk.1.2⟩⟩⟩)))⟩; have n5_ : Aside0 (Kd.V (Kd.int .i64) 3 w40 w.heap.size (fun k_ => some k_ ≠ (v151 : Value).ownBlock ∧ some k_ ≠ (v154 : Value).ownBlock ∧ k_ ≠ gb149 ∧ k_ ≠ gb167) (.slice Ao39 t162.length co39) t162) := ⟨(by rw [hw]; exact (by (with_reducible repeat (first | apply Kd.V_alloc | apply Kd.V_drewN | apply Kd.V_drew)); exact Kd.V_mono (Kd.V_far (p := ⟨gb167, 1, none⟩) (Kd.V_far (p := ⟨gb167, 0, none⟩) (Kd.V_mono HO164.out (fun k_ hk => (⟨hk, hk.2⟩ : _ ∧ k_ ≠ gb167))) (fun _ hk => hk.2) (.slice Ao36 t159.length co36)) (fun _ hk => hk.2) (.slice Ao39 t162.length co39)) (fun _ hk => ⟨hk.1.1.1, ⟨hk.1.1.2.1, ⟨hk.1.1.2.2, hk.1.2⟩⟩⟩)))⟩; have n6_ : Aside0 (w40.heap[gb149]? = some (.cells #[.slice Ao32 x150000_1.length co32, .slice Ao33 x150001_1.length co33] 27 (0, 0))) := ⟨(by rw [hw]; exact (by (with_reducible repeat (first | refine blk_drewN ?_ _ | refine blk_drew ?_ | refine blk_alloc ?_ _)); refine blk_far ?_ NB149_167.out _; (with_reducible repeat (first | refine blk_drewN ?_ _ | refine blk_drew ?_ | refine blk_alloc ?_ _)); refine blk_far ?_ NB149_167.out _; (with_reducible repeat (first | refine blk_drewN ?_ _ | refine blk_drew ?_ | refine blk_alloc ?_ _)); exact BK149.out))⟩; have n7_ : Aside0 (w40.heap[gb167]? = some (.cells #[.slice Ao36 t159.length co36, .slice Ao39 t162.length co39] 27 (0, 0))) := ⟨(by rw [hw]; exact (by (with_reducible repeat (first | refine blk_drewN ?_ _ | refine blk_drew ?_ | refine blk_alloc ?_ _)); refine blk_put (cs := #[.slice Ao36 t159.length co36, .slice none 0 0]) ?_ 1 _ rfl; (with_reducible repeat (first | refine blk_drewN ?_ _ | refine blk_drew ?_ | refine blk_alloc ?_ _)); refine blk_put (cs := #[.slice none 0 0, .slice none 0 0]) ?_ 0 _ rfl; (with_reducible repeat (first | refine blk_drewN ?_ _ | refine blk_drew ?_ | refine blk_alloc ?_ _)); exact BK167.out))⟩; have n8_ : Aside0 (Below w.heap.size w w40) := ⟨(by rw [hw]; exact (by repeat (first | (with_reducible first | exact HB.out | apply below_alloc | apply pw_below_drewN | apply below_drew1 | refine below_set ?_ GE149.out | refine below_set ?_ GE167.out) | exact HB.out)))⟩; clear hw; clear HO_6; clear HO_7; clear HO_150000; clear HO_150001; clear HO161; clear HO164; clear BK149; clear BK167; clear HB; have HO_6 := n0_; have HO_7 := n1_; have HO_150000 := n2_; have HO_150001 := n3_; have HO161 := n4_; have HO164 := n5_; have BK149 := n6_; have BK167 := n7_; have HB := n8_; clear n0_ n1_ n2_ n3_ n4_ n5_ n6_ n7_ n8_; have hcz41_0 : w40.cell? ⟨gb167, 0, none⟩ = some (.slice Ao36 t159.length co36) := (blk_cell BK167.out 0).trans rfl; have hcz41_1 : w40.cell? ⟨gb167, 1, none⟩ = some (.slice Ao39 t162.length co39) := (blk_cell BK167.out 1).trans rfl; have hfz41_0 := blk_frozen BK167.out 0; have hfz41_1 := blk_frozen BK167.out 1; have hcz42_0 : w40.cell? ⟨gb149, 0, none⟩ = some (.slice Ao32 x150000_1.length co32) := (blk_cell BK149.out 0).trans rfl; have hcz42_1 : w40.cell? ⟨gb149, 1, none⟩ = some (.slice Ao33 x150001_1.length co33) := (blk_cell BK149.out 1).trans rfl; have hfz42_0 := blk_frozen BK149.out 0; have hfz42_1 := blk_frozen BK149.out 1) | ((with_reducible refine gate_store (t := 27) (p := 5) rfl ?_); refine store_event (t := 27) (p := 5) (v := ?vo_w43) (w1 := ((w40.setCell ⟨gb149, 0, none⟩ (.slice Ao36 t159.length co36)).setCell ⟨gb149, 1, none⟩ (.slice Ao39 t162.length co39))) ?hg ?ho ?hn ?hr ?_; (case ho => rfl); (case hg => rfl); (case hn => rfl); (case hr => first | (go_simp; done) | (go_simp; rfl)); intro w43 hw; have n0_ : Aside0 (Kd.R (Kd.int .i64) 3 w43 w.heap.size (fun _ => True) v151 x6_1) := ⟨(by rw [hw]; exact (by (with_reducible repeat (first | apply Kd.R_alloc | apply Kd.R_drewN | apply Kd.R_drew)); exact Kd.R_mono (Kd.R_far (p := ⟨gb149, 1, none⟩) (Kd.R_far (p := ⟨gb149, 0, none⟩) (Kd.R_types HO_6.out BK149.out (by decide)) (fun _ hk => hk.2) (.slice Ao36 t159.length co36)) (fun _ hk => hk.2) (.slice Ao39 t162.length co39)) (fun _ hk => trivial)))⟩; have n1_ : Aside0 (Kd.R Kd.bool 4 w43 w.heap.size (fun _ => True) v154 x7_1) := ⟨(by rw [hw]; exact (by (with_reducible repeat (first | apply Kd.R_alloc | apply Kd.R_drewN | apply Kd.R_drew)); exact Kd.R_mono (Kd.R_far (p := ⟨gb149, 1, none⟩) (Kd.R_far (p := ⟨gb149, 0, none⟩) (Kd.R_types HO_7.out BK149.out (by decide)) (fun _ hk => hk.2) (.slice Ao36 t159.length co36)) (fun _ hk => hk.2) (.slice Ao39 t162.length co39)) (fun _ hk => trivial)))⟩; have n2_ : Aside0 (Kd.V (Kd.slice 57 k57) 29 w43 w.heap.size (fun k_ => some k_ ≠ (v151 : Value).ownBlock ∧ some k_ ≠ (v154 : Value).ownBlock ∧ k_ ≠ gb149 ∧ k_ ≠ gb167) (.slice Ao32 x150000_1.length co32) x150000_1) := ⟨(by rw [hw]; exact (by (with_reducible repeat (first | apply Kd.V_alloc | apply Kd.V_drewN | apply Kd.V_drew)); exact Kd.V_mono (Kd.V_far (p := ⟨gb149, 1, none⟩) (Kd.V_far (p := ⟨gb149, 0, none⟩) (Kd.V_mono HO_150000.out (fun k_ hk => (⟨hk, hk.2.2.1⟩ : _ ∧ k_ ≠ gb149))) (fun _ hk => hk.2) (.slice Ao36 t159.length co36)) (fun _ hk => hk.2) (.slice Ao39 t162.length co39)) (fun _ hk => ⟨hk.1.1, ⟨hk.1.2.1, ⟨hk.1.2.2.1, hk.1.2.2.2⟩⟩⟩)))⟩; have n3_ : Aside0 (Kd.V (Kd.int .i64) 3 w43 w.heap.size (fun k_ => some k_ ≠ (v151 : Value).ownBlock ∧ some k_ ≠ (v154 : Value).ownBlock ∧ k_ ≠ gb149 ∧ k_ ≠ gb167) (.slice Ao33 x150001_1.length co33) x150001_1) := ⟨(by rw [hw]; exact (by (with_reducible repeat (first | apply Kd.V_alloc | apply Kd.V_drewN | apply Kd.V_drew)); exact Kd.V_mono (Kd.V_far (p := ⟨gb149, 1, none⟩) (Kd.V_far (p := ⟨gb149, 0, none⟩) (Kd.V_mono HO_150001.out (fun k_ hk => (⟨hk, hk.2.2.1⟩ : _ ∧ k_ ≠ gb149))) (fun _ hk => hk.2) (.slice Ao36 t159.length co36)) (fun _ hk => hk.2) (.slice Ao39 t162.length co39)) (fun _ hk => ⟨hk.1.1, ⟨hk.1.2.1, ⟨hk.1.2.2.1, hk.1.2.2.2⟩⟩⟩)))⟩; have n4_ : Aside0 (Kd.V (Kd.slice 57 k57) 29 w43 w.heap.size (fun k_ => some k_ ≠ (v151 : Value).ownBlock ∧ some k_ ≠ (v154 : Value).ownBlock ∧ k_ ≠ gb149 ∧ k_ ≠ gb167) (.slice Ao36 t159.length co36) t159) := ⟨(by rw [hw]; exact (by (with_reducible repeat (first | apply Kd.V_alloc | apply Kd.V_drewN | apply Kd.V_drew)); exact Kd.V_mono (Kd.V_far (p := ⟨gb149, 1, none⟩) (Kd.V_far (p := ⟨gb149, 0, none⟩) (Kd.V_mono HO161.out (fun k_ hk => (⟨hk, hk.2.2.1⟩ : _ ∧ k_ ≠ gb149))) (fun _ hk => hk.2) (.slice Ao36 t159.length co36)) (fun _ hk => hk.2) (.slice Ao39 t162.length co39)) (fun _ hk => ⟨hk.1.1, ⟨hk.1.2.1, ⟨hk.1.2.2.1, hk.1.2.2.2⟩⟩⟩)))⟩; have n5_ : Aside0 (Kd.V (Kd.int .i64) 3 w43 w.heap.size (fun k_ => some k_ ≠ (v151 : Value).ownBlock ∧ some k_ ≠ (v154 : Value).ownBlock ∧ k_ ≠ gb149 ∧ k_ ≠ gb167) (.slice Ao39 t162.length co39) t162) := ⟨(by rw [hw]; exact (by (with_reducible repeat (first | apply Kd.V_alloc | apply Kd.V_drewN | apply Kd.V_drew)); exact Kd.V_mono (Kd.V_far (p := ⟨gb149, 1, none⟩) (Kd.V_far (p := ⟨gb149, 0, none⟩) (Kd.V_mono HO164.out (fun k_ hk => (⟨hk, hk.2.2.1⟩ : _ ∧ k_ ≠ gb149))) (fun _ hk => hk.2) (.slice Ao36 t159.length co36)) (fun _ hk => hk.2) (.slice Ao39 t162.length co39)) (fun _ hk => ⟨hk.1.1, ⟨hk.1.2.1, ⟨hk.1.2.2.1, hk.1.2.2.2⟩⟩⟩)))⟩; have n6_ : Aside0 (w43.heap[gb149]? = some (.cells #[.slice Ao36 t159.length co36, .slice Ao39 t162.length co39] 27 (0, 0))) := ⟨(by rw [hw]; exact (by (with_reducible repeat (first | refine blk_drewN ?_ _ | refine blk_drew ?_ | refine blk_alloc ?_ _)); refine blk_put (cs := #[.slice Ao36 t159.length co36, .slice Ao33 x150001_1.length co33]) ?_ 1 _ rfl; (with_reducible repeat (first | refine blk_drewN ?_ _ | refine blk_drew ?_ | refine blk_alloc ?_ _)); refine blk_put (cs := #[.slice Ao32 x150000_1.length co32, .slice Ao33 x150001_1.length co33]) ?_ 0 _ rfl; (with_reducible repeat (first | refine blk_drewN ?_ _ | refine blk_drew ?_ | refine blk_alloc ?_ _)); exact BK149.out))⟩; have n7_ : Aside0 (w43.heap[gb167]? = some (.cells #[.slice Ao36 t159.length co36, .slice Ao39 t162.length co39] 27 (0, 0))) := ⟨(by rw [hw]; exact (by (with_reducible repeat (first | refine blk_drewN ?_ _ | refine blk_drew ?_ | refine blk_alloc ?_ _)); refine blk_far ?_ NB167_149.out _; (with_reducible repeat (first | refine blk_drewN ?_ _ | refine blk_drew ?_ | refine blk_alloc ?_ _)); refine blk_far ?_ NB167_149.out _; (with_reducible repeat (first | refine blk_drewN ?_ _ | refine blk_drew ?_ | refine blk_alloc ?_ _)); exact BK167.out))⟩; have n8_ : Aside0 (Below w.heap.size w w43) := ⟨(by rw [hw]; exact (by repeat (first | (with_reducible first | exact HB.out | apply below_alloc | apply pw_below_drewN | apply below_drew1 | refine below_set ?_ GE149.out | refine below_set ?_ GE167.out) | exact HB.out)))⟩; clear hw; clear HO_6; clear HO_7; clear HO_150000; clear HO_150001; clear HO161; clear HO164; clear BK149; clear BK167; clear HB; have HO_6 := n0_; have HO_7 := n1_; have HO_150000 := n2_; have HO_150001 := n3_; have HO161 := n4_; have HO164 := n5_; have BK149 := n6_; have BK167 := n7_; have HB := n8_; clear n0_ n1_ n2_ n3_ n4_ n5_ n6_ n7_ n8_; have p29 : 0 ≤ (x30_1 : Int) := of_decide_eq_true (by first | (with_reducible assumption) | assumption); have q29 : (x30_1 : Int) < ((x6_1.length : Int) : Int) := of_decide_eq_true (by first | (with_reducible assumption) | assumption); obtain ⟨go29, co29, eo29, gb29, gl29, cl29, HG29⟩ := Kd.R_form HO_6.out (by omega); (first | cases eo29 | (injection eo29 with ea_ en_ ec_; (first | subst ea_ | (injection ea_ with ea_; subst ea_)); subst ec_; clear en_)); have GB29 := Aside0.mk gb29; have GG29 := Aside0.mk HG29; clear gb29 gl29 HG29; obtain ⟨hx29_0, hf29_0⟩ := Kd.R_celln 0 HO_6.out (x30_1 : Int) p29 q29; replace p29 := eq_true p29; replace q29 := eq_true q29; obtain ⟨hy44_, hz44_⟩ := Kd.R_celln 0 HO_6.out (x30_1 : Int) (of_decide_eq_true (by first | (with_reducible assumption) | assumption)) (of_decide_eq_true (by first | (with_reducible assumption) | assumption)); have HP44 := Kd.R_putg HO_6.out (x30_1 : Int) t165) | ((with_reducible refine gate_store (t := 3) (p := 57) rfl ?_); refine store_event (t := 3) (p := 57) (v := ?vo_w45) (w1 := (w43.setCell ⟨go29, (x30_1 : Int).toNat, none⟩ (.int .i64 t165))) ?hg ?ho ?hn ?hr ?_; (case ho => rfl); (case hg => rfl); (case hn => rfl); (case hr => first | (go_simp; done) | (go_simp; rfl)); intro w45 hw; have hg : w43.grownBy w45 (some go29) := (by rw [hw]; exact HP44.2); have hp_ : Kd.R (Kd.int .i64) 3 w45 w.heap.size (fun _ => True) (.slice (some ⟨go29, 0, none⟩) x6_1.length co29) y168 := (by rw [hw, Ny168.out]; exact HP44.1); clear HP44; have n0_ := Aside0.mk (hp_); have n1_ := Aside0.mk (Kd.R_over' (v := (.slice (some ⟨go29, 0, none⟩) x6_1.length co29)) (by (with_reducible repeat (first | apply Kd.R_alloc | apply Kd.R_drewN | apply Kd.R_drew)); exact HO_7.out) (Kd.R_typed HO_6.out) (by decide) hg); have n2_ := Aside0.mk (Kd.V_afterv (v := (.slice (some ⟨go29, 0, none⟩) x6_1.length co29)) (v1 := (.slice (some ⟨go29, 0, none⟩) x6_1.length co29)) (ok := (fun k_ => some k_ ≠ (v154 : Value).ownBlock ∧ k_ ≠ gb149 ∧ k_ ≠ gb167)) (by (with_reducible repeat (first | apply Kd.V_alloc | apply Kd.V_drewN | apply Kd.V_drew)); exact Kd.V_mono HO_150000.out (fun _ hk => ⟨⟨hk.2.1, ⟨hk.2.2.1, hk.2.2.2⟩⟩, hk.1⟩)) hg (.inl rfl)); have n3_ := Aside0.mk (Kd.V_afterv (v := (.slice (some ⟨go29, 0, none⟩) x6_1.length co29)) (v1 := (.slice (some ⟨go29, 0, none⟩) x6_1.length co29)) (ok := (fun k_ => some k_ ≠ (v154 : Value).ownBlock ∧ k_ ≠ gb149 ∧ k_ ≠ gb167)) (by (with_reducible repeat (first | apply Kd.V_alloc | apply Kd.V_drewN | apply Kd.V_drew)); exact Kd.V_mono HO_150001.out (fun _ hk => ⟨⟨hk.2.1, ⟨hk.2.2.1, hk.2.2.2⟩⟩, hk.1⟩)) hg (.inl rfl)); have n4_ := Aside0.mk (blk_grown (g := gb149) (o := .cells #[.slice Ao36 t159.length co36, .slice Ao39 t162.length co39] 27 (0, 0)) (by (with_reducible repeat (first | refine blk_drewN ?_ _ | refine blk_drew ?_ | refine blk_alloc ?_ _)); exact BK149.out) hg (Kd.R_ne HO_6.out BK149.out (by decide))); have n5_ := Aside0.mk (Kd.V_afterv (v := (.slice (some ⟨go29, 0, none⟩) x6_1.length co29)) (v1 := (.slice (some ⟨go29, 0, none⟩) x6_1.length co29)) (ok := (fun k_ => some k_ ≠ (v154 : Value).ownBlock ∧ k_ ≠ gb149 ∧ k_ ≠ gb167)) (by (with_reducible repeat (first | apply Kd.V_alloc | apply Kd.V_drewN | apply Kd.V_drew)); exact Kd.V_mono HO161.out (fun _ hk => ⟨⟨hk.2.1, ⟨hk.2.2.1, hk.2.2.2⟩⟩, hk.1⟩)) hg (.inl rfl)); have n6_ := Aside0.mk (Kd.V_afterv (v := (.slice (some ⟨go29, 0, none⟩) x6_1.length co29)) (v1 := (.slice (some ⟨go29, 0, none⟩) x6_1.length co29)) (ok := (fun k_ => some k_ ≠ (v154 : Value).ownBlock ∧ k_ ≠ gb149 ∧ k_ ≠ gb167)) (by (with_reducible repeat (first | apply Kd.V_alloc | apply Kd.V_drewN | apply Kd.V_drew)); exact Kd.V_mono HO164.out (fun _ hk => ⟨⟨hk.2.1, ⟨hk.2.2.1, hk.2.2.2⟩⟩, hk.1⟩)) hg (.inl rfl)); have n7_ := Aside0.mk (blk_grown (g := gb167) (o := .cells #[.slice Ao36 t159.length co36, .slice Ao39 t162.length co39] 27 (0, 0)) (by (with_reducible repeat (first | refine blk_drewN ?_ _ | refine blk_drew ?_ | refine blk_alloc ?_ _)); exact BK167.out) hg (Kd.R_ne HO_6.out BK167.out (by decide))); have n8_ := Aside0.mk ((by rw [hw]; exact below_set (HB.out) GB29.out : Below w.heap.size w w45)); clear HO_6; clear HO_7; clear HO_150000; clear HO_150001; clear BK149; clear HO161; clear HO164; clear BK167; clear HB; have HO_6 := n0_; have HO_7 := n1_; have HO_150000 := n2_; have HO_150001 := n3_; have BK149 := n4_; have HO161 := n5_; have HO164 := n6_; have BK167 := n7_; have HB := n8_; clear n0_ n1_ n2_ n3_ n4_ n5_ n6_ n7_ n8_; clear hg hw hp_))
                (try simp only [Act.put, List.setIfInBounds_toArray, List.set_cons_zero, List.set_cons_succ])
                go_cut [75] (fun v75 wc => ∃ (kq : Nat) (x75_29 : Bool), v75 = .bool x75_29 ∧ Aside0 (curtilagelaw05_InternOnce.j2 kq l0 l1 y168 x7_1 x30_1 l0 (l0.length : Int) x30_1 x75_29 t159 t162 = some true) ∧ Aside0 (kq ≤ kj16) ∧ Aside0 (Kd.R (Kd.int .i64) 3 wc w.heap.size (fun _ => True) (.slice (some ⟨go29, 0, none⟩) x6_1.length co29) y168) ∧ Aside0 (Kd.R Kd.bool 4 wc w.heap.size (fun _ => True) v154 x7_1) ∧ Aside0 (Kd.V (Kd.slice 57 k57) 29 wc w.heap.size (fun k_ => some k_ ≠ ((.slice (some ⟨go29, 0, none⟩) x6_1.length co29) : Value).ownBlock ∧ some k_ ≠ (v154 : Value).ownBlock ∧ k_ ≠ gb149 ∧ k_ ≠ gb167) (.slice Ao36 t159.length co36) t159) ∧ Aside0 (Kd.V (Kd.int .i64) 3 wc w.heap.size (fun k_ => some k_ ≠ ((.slice (some ⟨go29, 0, none⟩) x6_1.length co29) : Value).ownBlock ∧ some k_ ≠ (v154 : Value).ownBlock ∧ k_ ≠ gb149 ∧ k_ ≠ gb167) (.slice Ao39 t162.length co39) t162) ∧ Aside0 (Kd.V (Kd.slice 57 k57) 29 wc w.heap.size (fun k_ => some k_ ≠ ((.slice (some ⟨go29, 0, none⟩) x6_1.length co29) : Value).ownBlock ∧ some k_ ≠ (v154 : Value).ownBlock ∧ k_ ≠ gb149 ∧ k_ ≠ gb167) (.slice Ao36 t159.length co36) t159) ∧ Aside0 (Kd.V (Kd.int .i64) 3 wc w.heap.size (fun k_ => some k_ ≠ ((.slice (some ⟨go29, 0, none⟩) x6_1.length co29) : Value).ownBlock ∧ some k_ ≠ (v154 : Value).ownBlock ∧ k_ ≠ gb149 ∧ k_ ≠ gb167) (.slice Ao39 t162.length co39) t162) ∧ Aside0 (wc.heap[gb149]? = some (.cells #[(.slice Ao36 t159.length co36), (.slice Ao39 t162.length co39)] 27 (0, 0))) ∧ Aside0 (wc.heap[gb167]? = some (.cells #[(.slice Ao36 t159.length co36), (.slice Ao39 t162.length co39)] 27 (0, 0))) ∧ Aside0 (Below w.heap.size w wc))
                case first =>
                 have H := HC30.out
                 clear HC30
                 by_cases c46 : x30_1 < (l1.length : Int)
                 ·rw [if_pos c46] at H
                  have c46b0 : decide (x30_1 < (l1.length : Int)) = true := decide_eq_true c46
                  clear c46
                  (first | rw [c46b0] | (simp only [i64_w, i32_w]; rw [c46b0]) | skip)
                  obtain ⟨bq47, hbq47⟩ : ∃ b_ : Bool, b_ = (rdOf false l1 x30_1) := ⟨_, rfl⟩
                  replace H : (if bq47 = true then (if 0 ≤ (wrap64 (Int.tdiv x30_1 2)) then (if (wrap64 (Int.tdiv x30_1 2)) < (x7_1.length : Int) then (curtilagelaw05_InternOnce.j2 kj16 l0 l1 y168 x7_1 x30_1 l0 (l0.length : Int) x30_1 (!(rdOf false x7_1 (wrap64 (Int.tdiv x30_1 2)))) t159 t162) else (none)) else (none)) else (curtilagelaw05_InternOnce.j2 kj16 l0 l1 y168 x7_1 x30_1 l0 (l0.length : Int) x30_1 false t159 t162)) = some true := by rw [← hbq47] at H; exact H
                  have Nbq47 := Aside0.mk hbq47
                  clear hbq47
                  by_cases c48 : bq47 = true
                  ·subst c48
                   have H1 : (if 0 ≤ (wrap64 (Int.tdiv x30_1 2)) then (if (wrap64 (Int.tdiv x30_1 2)) < (x7_1.length : Int) then (curtilagelaw05_InternOnce.j2 kj16 l0 l1 y168 x7_1 x30_1 l0 (l0.length : Int) x30_1 (!(rdOf false x7_1 (wrap64 (Int.tdiv x30_1 2)))) t159 t162) else (none)) else (none)) = some true := by rw [if_pos rfl] at H; exact H
                   clear H
                   have H := H1
                   clear H1
                   obtain ⟨ji49, hji49⟩ : ∃ j_ : Int, (wrap64 (Int.tdiv x30_1 2)) = j_ := ⟨_, rfl⟩
                   replace H : (if 0 ≤ (ji49) then (if (ji49) < (x7_1.length : Int) then (curtilagelaw05_InternOnce.j2 kj16 l0 l1 y168 x7_1 x30_1 l0 (l0.length : Int) x30_1 (!(rdOf false x7_1 (ji49))) t159 t162) else (none)) else (none)) = some true := by first | (rw [hji49] at H; exact H) | (simp only [hji49] at H ⊢; exact H)
                   have hji49w : (IntKind.i64.wrap (Int.tdiv x30_1 2)) = ji49 := (i64_w _).trans hji49
                   by_cases c50 : 0 ≤ (ji49)
                   ·rw [if_pos c50] at H
                    have c50b0 : decide (0 ≤ (ji49)) = true := decide_eq_true c50
                    clear c50
                    by_cases c51 : (ji49) < (x7_1.length : Int)
                    ·rw [if_pos c51] at H
                     have c51b0 : decide ((ji49) < (x7_1.length : Int)) = true := decide_eq_true c51
                     clear c51
                     have H' := Aside0.mk H
                     clear H
                     have p169 : 0 ≤ (x30_1 : Int) := of_decide_eq_true (by first | (with_reducible assumption) | assumption)
                     have q169 : x30_1 < (l1.length : Int) := of_decide_eq_true (by first | (with_reducible assumption) | assumption)
                     obtain ⟨ad169, e169, hx169_0⟩ := Kd.at_bool HR1.out x30_1 p169 q169
                     (try rw [← Nbq47.out] at hx169_0)
                     cases e169
                     replace hx169_0 := (HB.out.cell (World.block_lt_of_cell? w _ hx169_0)).trans hx169_0
                     replace p169 := eq_true p169
                     replace q169 := eq_true q169
                     obtain ⟨Ao52, co52, eo52⟩ := Kd.R_slice HO_7.out
                     subst eo52
                     have p170 : 0 ≤ ((ji49) : Int) := of_decide_eq_true (by first | (with_reducible assumption) | assumption)
                     have q170 : (ji49) < (x7_1.length : Int) := of_decide_eq_true (by first | (with_reducible assumption) | assumption)
                     obtain ⟨ad170, e170, hx170_0⟩ := Kd.at_bool (Kd.R_reads' HO_7.out).2.2 (ji49) p170 q170
                     (try rw [← Nbq47.out] at hx170_0)
                     cases e170
                     replace p170 := eq_true p170
                     replace q170 := eq_true q170
                     go_wp2
                     go_meet
                     case rel => exact ⟨_, (!(rdOf false x7_1 (ji49))), (by first | rfl | (simp; done) | (simp only [← hji49] <;> (first | rfl | simp)) | (simp [*]; done)), H', ⟨by have := HK1.out; have := HJ16.out; first | omega | exact Nat.le_refl _⟩, ⟨by (with_reducible repeat (first | apply Kd.R_alloc | apply Kd.R_drewN | apply Kd.R_drew)); exact HO_6.out⟩, ⟨by (with_reducible repeat (first | apply Kd.R_alloc | apply Kd.R_drewN | apply Kd.R_drew)); exact HO_7.out⟩, ⟨by (with_reducible repeat (first | apply Kd.V_alloc | apply Kd.V_drewN | apply Kd.V_drew)); exact Kd.V_mono HO161.out (fun _ hk => ⟨hk.2, ⟨hk.1.1, ⟨hk.1.2.1, hk.1.2.2⟩⟩⟩)⟩, ⟨by (with_reducible repeat (first | apply Kd.V_alloc | apply Kd.V_drewN | apply Kd.V_drew)); exact Kd.V_mono HO164.out (fun _ hk => ⟨hk.2, ⟨hk.1.1, ⟨hk.1.2.1, hk.1.2.2⟩⟩⟩)⟩, ⟨by (with_reducible repeat (first | apply Kd.V_alloc | apply Kd.V_drewN | apply Kd.V_drew)); exact Kd.V_mono HO161.out (fun _ hk => ⟨hk.2, ⟨hk.1.1, ⟨hk.1.2.1, hk.1.2.2⟩⟩⟩)⟩, ⟨by (with_reducible repeat (first | apply Kd.V_alloc | apply Kd.V_drewN | apply Kd.V_drew)); exact Kd.V_mono HO164.out (fun _ hk => ⟨hk.2, ⟨hk.1.1, ⟨hk.1.2.1, hk.1.2.2⟩⟩⟩)⟩, ⟨by (with_reducible repeat (first | refine blk_drewN ?_ _ | refine blk_drew ?_ | refine blk_alloc ?_ _)); exact BK149.out⟩, ⟨by (with_reducible repeat (first | refine blk_drewN ?_ _ | refine blk_drew ?_ | refine blk_alloc ?_ _)); exact BK167.out⟩, ⟨by repeat (first | (with_reducible first | exact HB.out | apply below_alloc | apply pw_below_drewN | apply below_drew1 | refine below_set ?_ GE149.out | refine below_set ?_ GE167.out) | exact HB.out)⟩⟩
                    ·rw [if_neg c51] at H
                     exact absurd H (by simp)
                   ·rw [if_neg c50] at H
                    exact absurd H (by simp)
                  ·replace c48 := Bool.eq_false_iff.mpr c48
                   subst c48
                   have H1 : (curtilagelaw05_InternOnce.j2 kj16 l0 l1 y168 x7_1 x30_1 l0 (l0.length : Int) x30_1 false t159 t162) = some true := by rw [if_neg (show ¬ (false = true) by decide)] at H; exact H
                   clear H
                   have H := H1
                   clear H1
                   have H' := Aside0.mk H
                   clear H
                   have p169 : 0 ≤ (x30_1 : Int) := of_decide_eq_true (by first | (with_reducible assumption) | assumption)
                   have q169 : x30_1 < (l1.length : Int) := of_decide_eq_true (by first | (with_reducible assumption) | assumption)
                   obtain ⟨ad169, e169, hx169_0⟩ := Kd.at_bool HR1.out x30_1 p169 q169
                   (try rw [← Nbq47.out] at hx169_0)
                   cases e169
                   replace hx169_0 := (HB.out.cell (World.block_lt_of_cell? w _ hx169_0)).trans hx169_0
                   replace p169 := eq_true p169
                   replace q169 := eq_true q169
                   go_wp2
                   go_meet
                   case rel => exact ⟨_, (false), (by first | rfl | (simp; done) | (simp [*]; done)), H', ⟨by have := HK1.out; have := HJ16.out; first | omega | exact Nat.le_refl _⟩, ⟨by (with_reducible repeat (first | apply Kd.R_alloc | apply Kd.R_drewN | apply Kd.R_drew)); exact HO_6.out⟩, ⟨by (with_reducible repeat (first | apply Kd.R_alloc | apply Kd.R_drewN | apply Kd.R_drew)); exact HO_7.out⟩, ⟨by (with_reducible repeat (first | apply Kd.V_alloc | apply Kd.V_drewN | apply Kd.V_drew)); exact Kd.V_mono HO161.out (fun _ hk => ⟨hk.2, ⟨hk.1.1, ⟨hk.1.2.1, hk.1.2.2⟩⟩⟩)⟩, ⟨by (with_reducible repeat (first | apply Kd.V_alloc | apply Kd.V_drewN | apply Kd.V_drew)); exact Kd.V_mono HO164.out (fun _ hk => ⟨hk.2, ⟨hk.1.1, ⟨hk.1.2.1, hk.1.2.2⟩⟩⟩)⟩, ⟨by (with_reducible repeat (first | apply Kd.V_alloc | apply Kd.V_drewN | apply Kd.V_drew)); exact Kd.V_mono HO161.out (fun _ hk => ⟨hk.2, ⟨hk.1.1, ⟨hk.1.2.1, hk.1.2.2⟩⟩⟩)⟩, ⟨by (with_reducible repeat (first | apply Kd.V_alloc | apply Kd.V_drewN | apply Kd.V_drew)); exact Kd.V_mono HO164.out (fun _ hk => ⟨hk.2, ⟨hk.1.1, ⟨hk.1.2.1, hk.1.2.2⟩⟩⟩)⟩, ⟨by (with_reducible repeat (first | refine blk_drewN ?_ _ | refine blk_drew ?_ | refine blk_alloc ?_ _)); exact BK149.out⟩, ⟨by (with_reducible repeat (first | refine blk_drewN ?_ _ | refine blk_drew ?_ | refine blk_alloc ?_ _)); exact BK167.out⟩, ⟨by repeat (first | (with_reducible first | exact HB.out | apply below_alloc | apply pw_below_drewN | apply below_drew1 | refine below_set ?_ GE149.out | refine below_set ?_ GE167.out) | exact HB.out)⟩⟩
                 ·rw [if_neg c46] at H
                  have c46b0 : decide (x30_1 < (l1.length : Int)) = false := decide_eq_false c46
                  clear c46
                  (first | rw [c46b0] | (simp only [i64_w, i32_w]; rw [c46b0]) | skip)
                  have H' := Aside0.mk H
                  clear H
                  go_wp2
                  go_meet
                  case rel => exact ⟨_, (false), (by first | rfl | (simp; done) | (simp [*]; done)), H', ⟨by have := HK1.out; have := HJ16.out; first | omega | exact Nat.le_refl _⟩, ⟨by (with_reducible repeat (first | apply Kd.R_alloc | apply Kd.R_drewN | apply Kd.R_drew)); exact HO_6.out⟩, ⟨by (with_reducible repeat (first | apply Kd.R_alloc | apply Kd.R_drewN | apply Kd.R_drew)); exact HO_7.out⟩, ⟨by (with_reducible repeat (first | apply Kd.V_alloc | apply Kd.V_drewN | apply Kd.V_drew)); exact Kd.V_mono HO161.out (fun _ hk => ⟨hk.2, ⟨hk.1.1, ⟨hk.1.2.1, hk.1.2.2⟩⟩⟩)⟩, ⟨by (with_reducible repeat (first | apply Kd.V_alloc | apply Kd.V_drewN | apply Kd.V_drew)); exact Kd.V_mono HO164.out (fun _ hk => ⟨hk.2, ⟨hk.1.1, ⟨hk.1.2.1, hk.1.2.2⟩⟩⟩)⟩, ⟨by (with_reducible repeat (first | apply Kd.V_alloc | apply Kd.V_drewN | apply Kd.V_drew)); exact Kd.V_mono HO161.out (fun _ hk => ⟨hk.2, ⟨hk.1.1, ⟨hk.1.2.1, hk.1.2.2⟩⟩⟩)⟩, ⟨by (with_reducible repeat (first | apply Kd.V_alloc | apply Kd.V_drewN | apply Kd.V_drew)); exact Kd.V_mono HO164.out (fun _ hk => ⟨hk.2, ⟨hk.1.1, ⟨hk.1.2.1, hk.1.2.2⟩⟩⟩)⟩, ⟨by (with_reducible repeat (first | refine blk_drewN ?_ _ | refine blk_drew ?_ | refine blk_alloc ?_ _)); exact BK149.out⟩, ⟨by (with_reducible repeat (first | refine blk_drewN ?_ _ | refine blk_drew ?_ | refine blk_alloc ?_ _)); exact BK167.out⟩, ⟨by repeat (first | (with_reducible first | exact HB.out | apply below_alloc | apply pw_below_drewN | apply below_drew1 | refine below_set ?_ GE149.out | refine below_set ?_ GE167.out) | exact HB.out)⟩⟩
                case rest =>
                 clear HC30
                 (try clear c1); (try clear p1); (try clear q1); (try clear hx1); (try clear c2); (try clear p2); (try clear q2); (try clear hx2); (try clear hf2); (try clear c3); (try clear c3b0); (try clear c3b1); (try clear c4); (try clear q4); (try clear c5); (try clear c6); (try clear c6b0); (try clear c6b1); (try clear p6); (try clear c7); (try clear c7b0); (try clear c7b1); (try clear c8); (try clear c8b0); (try clear c8b1); (try clear c14); (try clear c14b0); (try clear c15); (try clear c15b0); (try clear p15); (try clear q15); (try clear hx15); (try clear c16); (try clear c16b0); (try clear p16); (try clear q16); (try clear hx16); (try clear p17); (try clear q17); (try clear hx17); (try clear c19); (try clear c22); (try clear c26); (try clear c26b0); (try clear c26b1); (try clear c27); (try clear c27b0); (try clear c28); (try clear c28b0); (try clear p29); (try clear q29); (try clear hx29); (try clear hf29); (try clear c37); (try clear c46); (try clear c46b0); (try clear q47); (try clear c48); (try clear c50); (try clear c50b0); (try clear c51); (try clear c51b0); (try clear hcz31_0); (try clear hcz31_1); (try clear hcz38_0); (try clear hcz38_1); (try clear hcz41_0); (try clear hcz41_1); (try clear hcz42_0); (try clear hcz42_1); (try clear hfz31_0); (try clear hfz31_1); (try clear hfz38_0); (try clear hfz38_1); (try clear hfz41_0); (try clear hfz41_1); (try clear hfz42_0); (try clear hfz42_1); (try clear hx156_0); (try clear hx169_0); (try clear hx170_0); (try clear hx29_0); (try clear p1); (try clear p15); (try clear p156); (try clear p169); (try clear p170); (try clear p2); (try clear p29); (try clear q1); (try clear q15); (try clear q156); (try clear q169); (try clear q170); (try clear q29)
                 obtain ⟨kq, x75_29, rfl, HA, HJ29, HO_6, HO_7, HO_150000, HO_150001, HO_168000, HO_168001, BK149, BK167, HB⟩ := hcut
                 have hl6_29 := (Kd.R_reads' HO_6.out).1
                 rw [hl6_29] at HO_6
                 (try simp only [hl6_29])
                 (try simp only [hl6_29] at BK149)
                 (try simp only [hl6_29] at BK167)
                 (try simp only [hl6_29] at HO_7)
                 (try simp only [hl6_29] at HO_150000)
                 (try simp only [hl6_29] at HO_150001)
                 (try simp only [hl6_29] at HO_168000)
                 (try simp only [hl6_29] at HO_168001)
                 cases kq with
                 | zero => exact absurd HA.out (by simp [curtilagelaw05_InternOnce.j2])
                 | succ kj29 =>
                  have H := HA.out
                  clear HA
                  simp only [curtilagelaw05_InternOnce.j2] at H
                  by_cases c53 : x75_29 = true
                  ·subst c53
                   have H1 : (if 0 ≤ (wrap64 (Int.tdiv x30_1 2)) then (if (wrap64 (Int.tdiv x30_1 2)) < (y168.length : Int) then ((intern_Drop.f t159 t162 (rd y168 (wrap64 (Int.tdiv x30_1 2)))).bind fun bt172 => (if (wrap64 (Int.tdiv x30_1 2)) < (x7_1.length : Int) then ((some (x7_1.set ((wrap64 (Int.tdiv x30_1 2)) : Int).toNat true : List Bool)).bind fun y180 => (if bt172.2.2 = 0 then ((curtilagelaw05_same.f kj29 bt172.1 bt172.2.1 y168 y180 l0 x30_1).bind fun t181 => (if t181 = true then (curtilagelaw05_InternOnce.l0 kj29 l0 l1 y168 y180 l0 (l0.length : Int) (wrap64 (x30_1 + 1)) bt172.1 bt172.2.1) else (some false))) else (some false))) else (none))) else (none)) else (none)) = some true := by rw [if_pos rfl] at H; exact H
                   clear H
                   have H := H1
                   clear H1
                   obtain ⟨ji54, hji54⟩ : ∃ j_ : Int, (wrap64 (Int.tdiv x30_1 2)) = j_ := ⟨_, rfl⟩
                   replace H : (if 0 ≤ (ji54) then (if (ji54) < (y168.length : Int) then ((intern_Drop.f t159 t162 (rd y168 (ji54))).bind fun bt172 => (if (ji54) < (x7_1.length : Int) then ((some (x7_1.set ((ji54) : Int).toNat true : List Bool)).bind fun y180 => (if bt172.2.2 = 0 then ((curtilagelaw05_same.f kj29 bt172.1 bt172.2.1 y168 y180 l0 x30_1).bind fun t181 => (if t181 = true then (curtilagelaw05_InternOnce.l0 kj29 l0 l1 y168 y180 l0 (l0.length : Int) (wrap64 (x30_1 + 1)) bt172.1 bt172.2.1) else (some false))) else (some false))) else (none))) else (none)) else (none)) = some true := by first | (rw [hji54] at H; exact H) | (simp only [hji54] at H ⊢; exact H)
                   have hji54w : (IntKind.i64.wrap (Int.tdiv x30_1 2)) = ji54 := (i64_w _).trans hji54
                   by_cases c55 : 0 ≤ (ji54)
                   ·rw [if_pos c55] at H
                    have c55b0 : decide (0 ≤ (ji54)) = true := decide_eq_true c55
                    clear c55
                    by_cases c56 : (ji54) < (y168.length : Int)
                    ·rw [if_pos c56] at H
                     have c56b0 : decide ((ji54) < (y168.length : Int)) = true := decide_eq_true c56
                     clear c56
                     replace H := Option.bind_eq_some_iff.mp H
                     obtain ⟨⟨t172, t175, t178⟩, A570, H⟩ := H
                     replace H : (if (ji54) < (x7_1.length : Int) then ((some (x7_1.set ((ji54) : Int).toNat true : List Bool)).bind fun y180 => (if t178 = 0 then ((curtilagelaw05_same.f kj29 t172 t175 y168 y180 l0 x30_1).bind fun t181 => (if t181 = true then (curtilagelaw05_InternOnce.l0 kj29 l0 l1 y168 y180 l0 (l0.length : Int) (wrap64 (x30_1 + 1)) t172 t175) else (some false))) else (some false))) else (none)) = some true := H
                     have A57 := Aside0.mk A570
                     clear A570
                     by_cases c58 : (ji54) < (x7_1.length : Int)
                     ·rw [if_pos c58] at H
                      have c58b0 : decide ((ji54) < (x7_1.length : Int)) = true := decide_eq_true c58
                      clear c58
                      obtain ⟨y180, hy180⟩ : ∃ y_ : List Bool, y_ = (x7_1.set ((ji54) : Int).toNat true) := ⟨_, rfl⟩
                      replace H : (if t178 = 0 then ((curtilagelaw05_same.f kj29 t172 t175 y168 y180 l0 x30_1).bind fun t181 => (if t181 = true then (curtilagelaw05_InternOnce.l0 kj29 l0 l1 y168 y180 l0 (l0.length : Int) (wrap64 (x30_1 + 1)) t172 t175) else (some false))) else (some false)) = some true := by first | (rw [hy180]; with_reducible exact H) | (have H2_ := (Option.bind_some _ _).symm.trans H; rw [hy180]; with_reducible exact H2_) | (have H2_ := (Option.bind_some _ _).symm.trans H; with_reducible exact H2_) | with_reducible exact H | (rw [hy180]; exact H) | exact H
                      have Ny180 := Aside0.mk hy180
                      clear hy180
                      by_cases c60 : t178 = 0
                      ·rw [if_pos c60] at H
                       have c60b0 : (t178 == 0) = true := beq_iff_eq.mpr c60
                       have c60b1 : (t178 != 0) = false := bne_eq_false_iff_eq.mpr c60
                       clear c60
                       replace H := Option.bind_eq_some_iff.mp H
                       obtain ⟨t181, A610, H⟩ := H
                       replace H : (if t181 = true then (curtilagelaw05_InternOnce.l0 kj29 l0 l1 y168 y180 l0 (l0.length : Int) (wrap64 (x30_1 + 1)) t172 t175) else (some false)) = some true := H
                       have A61 := Aside0.mk A610
                       clear A610
                       by_cases c62 : t181 = true
                       ·subst c62
                        have H1 : (curtilagelaw05_InternOnce.l0 kj29 l0 l1 y168 y180 l0 (l0.length : Int) (wrap64 (x30_1 + 1)) t172 t175) = some true := by rw [if_pos rfl] at H; exact H
                        clear H
                        have H := H1
                        clear H1
                        have H' := Aside0.mk H
                        clear H
                        try go_wp2
                        have n0_ := Aside0.mk (Kd.R_drew HO_6.out)
                        have n1_ := Aside0.mk (Kd.R_drew HO_7.out)
                        have n2_ := Aside0.mk (Kd.V_drew HO_150000.out)
                        have n3_ := Aside0.mk (Kd.V_drew HO_150001.out)
                        have n4_ := Aside0.mk (Kd.V_drew HO_168000.out)
                        have n5_ := Aside0.mk (Kd.V_drew HO_168001.out)
                        have n6_ := Aside0.mk (blk_drew BK149.out)
                        have n7_ := Aside0.mk (blk_drew BK167.out)
                        have n8_ := Aside0.mk (below_drew1 HB.out)
                        clear HO_6
                        clear HO_7
                        clear HO_150000
                        clear HO_150001
                        clear HO_168000
                        clear HO_168001
                        clear BK149
                        clear BK167
                        clear HB
                        have HO_6 := n0_
                        have HO_7 := n1_
                        have HO_150000 := n2_
                        have HO_150001 := n3_
                        have HO_168000 := n4_
                        have HO_168001 := n5_
                        have BK149 := n6_
                        have BK167 := n7_
                        have HB := n8_
                        clear n0_ n1_ n2_ n3_ n4_ n5_ n6_ n7_ n8_
                        have p171 : 0 ≤ ((ji54) : Int) := of_decide_eq_true (by first | (with_reducible assumption) | assumption)
                        have q171 : (ji54) < (y168.length : Int) := of_decide_eq_true (by first | (with_reducible assumption) | assumption)
                        obtain ⟨ad171, e171, hx171_0⟩ := Kd.at_int (Kd.R_reads' HO_6.out).2.2 (ji54) p171 q171
                        obtain rfl : (⟨go29, 0, none⟩ : Addr) = ad171 := (by injection e171)
                        (first | simp only [add_plain] at hx171_0 | simp only [add_at] at hx171_0 | simp only [Addr.add, Nat.zero_add] at hx171_0 | skip)
                        replace p171 := eq_true p171
                        replace q171 := eq_true q171
                        refine start_ (n := 13) (S := fun w' => w'.cell? ⟨gb149, 0, none⟩ = some (.slice Ao36 t159.length co36) ∧ w'.cell? ⟨gb149, 1, none⟩ = some (.slice Ao39 t162.length co39) ∧ w'.cell? ⟨go29, ((ji54)).toNat, none⟩ = some (.int .i64 (rd y168 (ji54)))) (ds := []) #[false, false, false, false, false, false, false, false, false, false, false, false, false] (by kernel_rfl) rfl rfl ⟨(blk_cell BK149.out 0).trans rfl, (blk_cell BK149.out 1).trans rfl, hx171_0⟩ (fun hHeld => ?_); refine with_tabW curtilagelaw05_InternOnce.tab16 curtilagelaw05_InternOnce.bits16 (fun HT_ HW_ => ?_)
                        generalize wc.drew = w63 at HO_6 HO_7 HO_150000 HO_150001 HO_168000 HO_168001 BK149 BK167 HB hx171_0 hHeld ⊢
                        refine pure_ (i := 1) (N := some 78) (v := ?_) (a' := ?_) #[false, true, false, false, false, false, false, false, false, false, false, false, false] rfl rfl (any_of HT_.out (by kernel_rfl)) (fun _ _ _ h => h) (Or.inl ⟨by rfl, ?_⟩) ?_ ?_
                        rotate_left
                        ·intro w'
                         go_simp
                         with_reducible rfl
                        rotate_left
                        ·simp only [Act.put, List.setIfInBounds_toArray, List.set_cons_zero, List.set_cons_succ, i64_w, i32_w]
                         rfl
                        refine pure_ (i := 2) (N := some 79) (v := ?_) (a' := ?_) #[false, true, true, false, false, false, false, false, false, false, false, false, false] rfl rfl (any_of HT_.out (by kernel_rfl)) (fun _ _ _ h => h) (Or.inl ⟨by rfl, ?_⟩) ?_ ?_
                        rotate_left
                        ·intro w'
                         go_simp
                         with_reducible rfl
                        rotate_left
                        ·simp only [Act.put, List.setIfInBounds_toArray, List.set_cons_zero, List.set_cons_succ, i64_w, i32_w]
                         rfl
                        refine pure_ (i := 3) (N := some 80) (v := ?_) (a' := ?_) #[false, true, true, true, false, false, false, false, false, false, false, false, false] rfl rfl (any_of HT_.out (by kernel_rfl)) (fun _ _ _ h => h) (Or.inl ⟨by rfl, ?_⟩) ?_ ?_
                        rotate_left
                        ·intro w'
                         go_simp
                         with_reducible rfl
                        rotate_left
                        ·simp only [Act.put, List.setIfInBounds_toArray, List.set_cons_zero, List.set_cons_succ, i64_w, i32_w]
                         rfl
                        refine pure_ (i := 4) (N := some 81) (v := ?_) (a' := ?_) #[false, true, true, true, true, false, false, false, false, false, false, false, false] rfl rfl (any_of HT_.out (by kernel_rfl)) (fun _ _ _ h => h) (Or.inl ⟨by rfl, ?_⟩) ?_ ?_
                        rotate_left
                        ·intro w'
                         go_simp
                         with_reducible rfl
                        rotate_left
                        ·simp only [Act.put, List.setIfInBounds_toArray, List.set_cons_zero, List.set_cons_succ, i64_w, i32_w]
                         rfl
                        refine take_ (i := 0) (N := some 77) (v := ?_) (a' := ?_) #[true, true, true, true, true, false, false, false, false, false, false, false, false] rfl rfl (take_ofW HT_.out HW_.out (by kernel_rfl)) (fun _ _ _ h => h) (Or.inl ⟨by rfl, ?_⟩) hHeld ?_ ?_
                        rotate_left
                        ·rintro w' ⟨s0, s1, s2⟩
                         go_simp
                         with_reducible rfl
                        rotate_left
                        ·simp only [Act.put, List.setIfInBounds_toArray, List.set_cons_zero, List.set_cons_succ, i64_w, i32_w]
                         rfl
                        refine take_ (i := 5) (N := some 82) (v := ?_) (a' := ?_) #[true, true, true, true, true, true, false, false, false, false, false, false, false] rfl rfl (take_ofW HT_.out HW_.out (by kernel_rfl)) (fun _ _ _ h => h) (Or.inl ⟨by rfl, ?_⟩) hHeld ?_ ?_
                        rotate_left
                        ·rintro w' ⟨s0, s1, s2⟩
                         go_simp
                         with_reducible rfl
                        rotate_left
                        ·simp only [Act.put, List.setIfInBounds_toArray, List.set_cons_zero, List.set_cons_succ, i64_w, i32_w]
                         rfl
                        refine join_ (σ := Value × Value × Nat) 2 #[true, true, true, true, true, true, true, true, true, true, true, false, false] (fun s_ => [(83, .tuple #[.agg #[s_.1, s_.2.1], .int .i64 t178]), (13, .pointer (some ⟨s_.2.2, 0, none⟩)), (76, .tuple #[.agg #[s_.1, s_.2.1], .int .i64 t178]), (84, .agg #[s_.1, s_.2.1]), (85, .int .i64 t178)]) (fun s_ w' => (w'.cell? ⟨gb149, 0, none⟩ = some (.slice Ao36 t159.length co36) ∧ w'.cell? ⟨gb149, 1, none⟩ = some (.slice Ao39 t162.length co39) ∧ w'.cell? ⟨go29, ((ji54)).toNat, none⟩ = some (.int .i64 (rd y168 (ji54)))) ∧ (Kd.V (Kd.slice 57 k57) 29 w' w.heap.size (fun k_ => some k_ ≠ (.slice (some ⟨go29, 0, none⟩) y168.length co29 : Value).ownBlock ∧ some k_ ≠ (v154 : Value).ownBlock ∧ k_ ≠ gb149 ∧ k_ ≠ gb167 ∧ k_ ≠ s_.2.2) s_.1 t172) ∧ (Kd.V (Kd.int .i64) 3 w' w.heap.size (fun k_ => some k_ ≠ (.slice (some ⟨go29, 0, none⟩) y168.length co29 : Value).ownBlock ∧ some k_ ≠ (v154 : Value).ownBlock ∧ k_ ≠ gb149 ∧ k_ ≠ gb167 ∧ k_ ≠ s_.2.2) s_.2.1 t175) ∧ (Kd.V (Kd.slice 57 k57) 29 w' w.heap.size (fun k_ => some k_ ≠ (.slice (some ⟨go29, 0, none⟩) y168.length co29 : Value).ownBlock ∧ some k_ ≠ (v154 : Value).ownBlock ∧ k_ ≠ gb149 ∧ k_ ≠ gb167 ∧ k_ ≠ s_.2.2) (.slice Ao36 t159.length co36) t159) ∧ (Kd.V (Kd.int .i64) 3 w' w.heap.size (fun k_ => some k_ ≠ (.slice (some ⟨go29, 0, none⟩) y168.length co29 : Value).ownBlock ∧ some k_ ≠ (v154 : Value).ownBlock ∧ k_ ≠ gb149 ∧ k_ ≠ gb167 ∧ k_ ≠ s_.2.2) (.slice Ao39 t162.length co39) t162) ∧ (Kd.V (Kd.slice 57 k57) 29 w' w.heap.size (fun k_ => some k_ ≠ (.slice (some ⟨go29, 0, none⟩) y168.length co29 : Value).ownBlock ∧ some k_ ≠ (v154 : Value).ownBlock ∧ k_ ≠ gb149 ∧ k_ ≠ gb167 ∧ k_ ≠ s_.2.2) (.slice Ao36 t159.length co36) t159) ∧ (Kd.V (Kd.int .i64) 3 w' w.heap.size (fun k_ => some k_ ≠ (.slice (some ⟨go29, 0, none⟩) y168.length co29 : Value).ownBlock ∧ some k_ ≠ (v154 : Value).ownBlock ∧ k_ ≠ gb149 ∧ k_ ≠ gb167 ∧ k_ ≠ s_.2.2) (.slice Ao39 t162.length co39) t162) ∧ (Kd.R (Kd.int .i64) 3 w' w.heap.size (fun _ => True) (.slice (some ⟨go29, 0, none⟩) y168.length co29) y168) ∧ (Kd.R Kd.bool 4 w' w.heap.size (fun _ => True) v154 x7_1) ∧ (w'.heap[gb149]? = some (.cells #[.slice Ao36 t159.length co36, .slice Ao39 t162.length co39] 27 (0, 0))) ∧ (w'.heap[gb167]? = some (.cells #[.slice Ao36 t159.length co36, .slice Ao39 t162.length co39] 27 (0, 0))) ∧ (w'.heap[s_.2.2]? = some (.cells #[.slice none 0 0, .slice none 0 0] 27 (0, 0))) ∧ (w.heap.size ≤ s_.2.2) ∧ (w.heap.size ≤ s_.2.2) ∧ (gb149 ≠ s_.2.2) ∧ (s_.2.2 ≠ gb149) ∧ (gb167 ≠ s_.2.2) ∧ (s_.2.2 ≠ gb167) ∧ (Below w.heap.size w w')) ?_ ?_
                        rotate_left
                        ·intro hCont
                         refine two_ (i := 6) (j := 10) (Ni := some 83) (Nj := some 13) #[true, true, true, true, true, true, true, false, false, false, false, false, false] #[true, true, true, true, true, true, false, false, false, false, true, false, false] rfl rfl rfl rfl (two_of HT_.out (by kernel_rfl)) (by decide) (by decide) (fun K hK => ?_) (fun K hK => ?_)
                         ·skip
                          refine goes_ Try.func9 (by kernel_rfl) rfl #[.agg #[.slice Ao36 t159.length co36, .slice Ao39 t162.length co39], .int .i64 (rd y168 (ji54))] (by rfl) rfl rfl (by (try simp only [List.map_toArray, List.map_cons, List.map_nil]); first | done | (simp only [hji54]; rfl) | rfl | (simp only [List.length_drop, List.length_take]; rfl)) ?_
                          with_reducible refine (intern_Drop.calls (fun k_ => (some k_ ≠ (.slice (some ⟨go29, 0, none⟩) y168.length co29 : Value).ownBlock ∧ (some k_ ≠ (v154 : Value).ownBlock ∧ (k_ ≠ gb149 ∧ k_ ≠ gb167)))) _ _ t159 (fun k_ => (some k_ ≠ (.slice (some ⟨go29, 0, none⟩) y168.length co29 : Value).ownBlock ∧ (some k_ ≠ (v154 : Value).ownBlock ∧ (k_ ≠ gb149 ∧ k_ ≠ gb167)))) _ _ t162 (rd y168 (ji54)) t172 t175 t178 _ ?side1 ?side2 A57.out).mono ?_
                          (case side1 => exact HO_150000.out)
                          (case side2 => exact HO_150001.out)
                          rintro e w64 ⟨v173, v176, rfl, ho0, ho1, hb⟩
                          have HS2_ := (hb.cell (World.block_lt_of_cell? _ _ (hHeld.2.2))).trans (hHeld.2.2)
                          refine ⟨_, rfl, ?_⟩
                          have n0_ := Aside0.mk (Kd.R_below (by (with_reducible repeat (first | apply Kd.R_alloc | apply Kd.R_drewN | apply Kd.R_drew)); exact HO_6.out) hb)
                          have n1_ := Aside0.mk (Kd.R_below (by (with_reducible repeat (first | apply Kd.R_alloc | apply Kd.R_drewN | apply Kd.R_drew)); exact HO_7.out) hb)
                          have n2_ := Aside0.mk (Kd.V_below (by (with_reducible repeat (first | apply Kd.V_alloc | apply Kd.V_drewN | apply Kd.V_drew)); exact HO_150000.out) hb)
                          have n3_ := Aside0.mk (Kd.V_below (by (with_reducible repeat (first | apply Kd.V_alloc | apply Kd.V_drewN | apply Kd.V_drew)); exact HO_150001.out) hb)
                          have n4_ := Aside0.mk (Kd.V_below (by (with_reducible repeat (first | apply Kd.V_alloc | apply Kd.V_drewN | apply Kd.V_drew)); exact HO_168000.out) hb)
                          have n5_ := Aside0.mk (Kd.V_below (by (with_reducible repeat (first | apply Kd.V_alloc | apply Kd.V_drewN | apply Kd.V_drew)); exact HO_168001.out) hb)
                          have n6_ := Aside0.mk (Kd.V_lower (Kd.V_mono (ok' := fun k_ => some k_ ≠ (.slice (some ⟨go29, 0, none⟩) y168.length co29 : Value).ownBlock ∧ some k_ ≠ (v154 : Value).ownBlock ∧ k_ ≠ gb149 ∧ k_ ≠ gb167) ho0 (fun k_ hk_ => ⟨Or.elim hk_ (fun hs_ => Or.elim hs_ (fun hs_ => hs_.1) (fun hs_ => hs_.1)) (fun hn_ => (Kd.fresh' (Kd.R_lt (by (with_reducible repeat (first | apply Kd.R_alloc | apply Kd.R_drewN | apply Kd.R_drew)); exact HO_6.out)) k_ hn_)), Or.elim hk_ (fun hs_ => Or.elim hs_ (fun hs_ => hs_.2.1) (fun hs_ => hs_.2.1)) (fun hn_ => (Kd.fresh' (Kd.R_lt (by (with_reducible repeat (first | apply Kd.R_alloc | apply Kd.R_drewN | apply Kd.R_drew)); exact HO_7.out)) k_ hn_)), Or.elim hk_ (fun hs_ => Or.elim hs_ (fun hs_ => hs_.2.2.1) (fun hs_ => hs_.2.2.1)) (fun hn_ => (Kd.freshB (g := gb149) (o := .cells #[.slice Ao36 t159.length co36, .slice Ao39 t162.length co39] 27 (0, 0)) (by (with_reducible repeat (first | refine blk_drewN ?_ _ | refine blk_drew ?_ | refine blk_alloc ?_ _)); exact BK149.out) k_ hn_)), Or.elim hk_ (fun hs_ => Or.elim hs_ (fun hs_ => hs_.2.2.2) (fun hs_ => hs_.2.2.2)) (fun hn_ => (Kd.freshB (g := gb167) (o := .cells #[.slice Ao36 t159.length co36, .slice Ao39 t162.length co39] 27 (0, 0)) (by (with_reducible repeat (first | refine blk_drewN ?_ _ | refine blk_drew ?_ | refine blk_alloc ?_ _)); exact BK167.out) k_ hn_))⟩)) (below_size (by repeat (first | (with_reducible first | exact HB.out | apply below_alloc | apply pw_below_drewN | apply below_drew1 | refine below_set ?_ GE149.out | refine below_set ?_ GE167.out) | exact HB.out))))
                          have n7_ := Aside0.mk (Kd.V_lower (Kd.V_mono (ok' := fun k_ => some k_ ≠ (.slice (some ⟨go29, 0, none⟩) y168.length co29 : Value).ownBlock ∧ some k_ ≠ (v154 : Value).ownBlock ∧ k_ ≠ gb149 ∧ k_ ≠ gb167) ho1 (fun k_ hk_ => ⟨Or.elim hk_ (fun hs_ => Or.elim hs_ (fun hs_ => hs_.1) (fun hs_ => hs_.1)) (fun hn_ => (Kd.fresh' (Kd.R_lt (by (with_reducible repeat (first | apply Kd.R_alloc | apply Kd.R_drewN | apply Kd.R_drew)); exact HO_6.out)) k_ hn_)), Or.elim hk_ (fun hs_ => Or.elim hs_ (fun hs_ => hs_.2.1) (fun hs_ => hs_.2.1)) (fun hn_ => (Kd.fresh' (Kd.R_lt (by (with_reducible repeat (first | apply Kd.R_alloc | apply Kd.R_drewN | apply Kd.R_drew)); exact HO_7.out)) k_ hn_)), Or.elim hk_ (fun hs_ => Or.elim hs_ (fun hs_ => hs_.2.2.1) (fun hs_ => hs_.2.2.1)) (fun hn_ => (Kd.freshB (g := gb149) (o := .cells #[.slice Ao36 t159.length co36, .slice Ao39 t162.length co39] 27 (0, 0)) (by (with_reducible repeat (first | refine blk_drewN ?_ _ | refine blk_drew ?_ | refine blk_alloc ?_ _)); exact BK149.out) k_ hn_)), Or.elim hk_ (fun hs_ => Or.elim hs_ (fun hs_ => hs_.2.2.2) (fun hs_ => hs_.2.2.2)) (fun hn_ => (Kd.freshB (g := gb167) (o := .cells #[.slice Ao36 t159.length co36, .slice Ao39 t162.length co39] 27 (0, 0)) (by (with_reducible repeat (first | refine blk_drewN ?_ _ | refine blk_drew ?_ | refine blk_alloc ?_ _)); exact BK167.out) k_ hn_))⟩)) (below_size (by repeat (first | (with_reducible first | exact HB.out | apply below_alloc | apply pw_below_drewN | apply below_drew1 | refine below_set ?_ GE149.out | refine below_set ?_ GE167.out) | exact HB.out))))
                          have n8_ := Aside0.mk (blk_below (g := gb149) (o := .cells #[.slice Ao36 t159.length co36, .slice Ao39 t162.length co39] 27 (0, 0)) (by (with_reducible repeat (first | refine blk_drewN ?_ _ | refine blk_drew ?_ | refine blk_alloc ?_ _)); exact BK149.out) hb)
                          have n9_ := Aside0.mk (blk_below (g := gb167) (o := .cells #[.slice Ao36 t159.length co36, .slice Ao39 t162.length co39] 27 (0, 0)) (by (with_reducible repeat (first | refine blk_drewN ?_ _ | refine blk_drew ?_ | refine blk_alloc ?_ _)); exact BK167.out) hb)
                          have n10_ := Aside0.mk (below_step (by repeat (first | (with_reducible first | exact HB.out | apply below_alloc | apply pw_below_drewN | apply below_drew1 | refine below_set ?_ GE149.out | refine below_set ?_ GE167.out) | exact HB.out)) hb)
                          clear HO_6
                          clear HO_7
                          clear HO_150000
                          clear HO_150001
                          clear HO_168000
                          clear HO_168001
                          clear BK149
                          clear BK167
                          clear HB
                          have HO_6 := n0_
                          have HO_7 := n1_
                          have HO_150000 := n2_
                          have HO_150001 := n3_
                          have HO_168000 := n4_
                          have HO_168001 := n5_
                          have HO174 := n6_
                          have HO177 := n7_
                          have BK149 := n8_
                          have BK167 := n9_
                          have HB := n10_
                          clear n0_ n1_ n2_ n3_ n4_ n5_ n6_ n7_ n8_ n9_ n10_
                          (try clear hb)
                          (try clear hb2)
                          (try clear hk)
                          (try clear hi)
                          (try clear ho0)
                          (try clear ho1)
                          refine hK.out _ _ ⟨(blk_cell BK149.out 0).trans rfl, (blk_cell BK149.out 1).trans rfl, HS2_⟩ (fun hHeld => ?_)
                          clear hK K
                          refine norm_ (a' := ?_) ?_ ?_
                          rotate_left
                          ·show Act.put _ (some 83) _ = _
                           simp only [Act.put, List.setIfInBounds_toArray, List.set_cons_zero, List.set_cons_succ, i64_w, i32_w]
                           rfl
                          refine pure_ (i := 7) (N := some 76) (v := ?_) (a' := ?_) #[true, true, true, true, true, true, true, true, false, false, false, false, false] rfl rfl (any_of HT_.out (by kernel_rfl)) (fun _ _ _ h => h) (Or.inl ⟨by rfl, ?_⟩) ?_ ?_
                          rotate_left
                          ·intro w'
                           go_simp
                           with_reducible rfl
                          rotate_left
                          ·simp only [Act.put, List.setIfInBounds_toArray, List.set_cons_zero, List.set_cons_succ, i64_w, i32_w]
                           rfl
                          refine pure_ (i := 8) (N := some 84) (v := ?_) (a' := ?_) #[true, true, true, true, true, true, true, true, true, false, false, false, false] rfl rfl (any_of HT_.out (by kernel_rfl)) (fun _ _ _ h => h) (Or.inl ⟨by rfl, ?_⟩) ?_ ?_
                          rotate_left
                          ·intro w'
                           go_simp
                           with_reducible rfl
                          rotate_left
                          ·simp only [Act.put, List.setIfInBounds_toArray, List.set_cons_zero, List.set_cons_succ, i64_w, i32_w]
                           rfl
                          refine pure_ (i := 9) (N := some 85) (v := ?_) (a' := ?_) #[true, true, true, true, true, true, true, true, true, true, false, false, false] rfl rfl (any_of HT_.out (by kernel_rfl)) (fun _ _ _ h => h) (Or.inl ⟨by rfl, ?_⟩) ?_ ?_
                          rotate_left
                          ·intro w'
                           go_simp
                           with_reducible rfl
                          rotate_left
                          ·simp only [Act.put, List.setIfInBounds_toArray, List.set_cons_zero, List.set_cons_succ, i64_w, i32_w]
                           rfl
                          refine one_ (i := 10) (N := some 13) #[true, true, true, true, true, true, true, true, true, true, true, false, false] rfl rfl (one_of HT_.out (by kernel_rfl)) (by decide) (fun K hK => ?_)
                          refine box_step ?hg (N := 13) ?hd (cs := #[.slice none 0 0, .slice none 0 0]) (t := 27) ?hr ?_; (case hd => rfl); (case hg => rfl); (case hr => first | (go_simp; done) | (go_simp; rfl))
                          intro gb179 hg w65 hbox hb
                          have HS2_ := (hb.cell (World.block_lt_of_cell? _ _ (hHeld.2.2))).trans (hHeld.2.2)
                          have n0_ := Aside0.mk (Kd.R_below (by (with_reducible repeat (first | apply Kd.R_alloc | apply Kd.R_drewN | apply Kd.R_drew)); exact HO_6.out) hb)
                          have n1_ := Aside0.mk (Kd.R_below (by (with_reducible repeat (first | apply Kd.R_alloc | apply Kd.R_drewN | apply Kd.R_drew)); exact HO_7.out) hb)
                          have n2_ := Aside0.mk (Kd.V_below (Kd.V_elderB (by (with_reducible repeat (first | apply Kd.V_alloc | apply Kd.V_drewN | apply Kd.V_drew)); exact HO_150000.out) gb179 (Nat.le_of_eq hg.symm)) hb)
                          have n3_ := Aside0.mk (Kd.V_below (Kd.V_elderB (by (with_reducible repeat (first | apply Kd.V_alloc | apply Kd.V_drewN | apply Kd.V_drew)); exact HO_150001.out) gb179 (Nat.le_of_eq hg.symm)) hb)
                          have n4_ := Aside0.mk (Kd.V_below (Kd.V_elderB (by (with_reducible repeat (first | apply Kd.V_alloc | apply Kd.V_drewN | apply Kd.V_drew)); exact HO_168000.out) gb179 (Nat.le_of_eq hg.symm)) hb)
                          have n5_ := Aside0.mk (Kd.V_below (Kd.V_elderB (by (with_reducible repeat (first | apply Kd.V_alloc | apply Kd.V_drewN | apply Kd.V_drew)); exact HO_168001.out) gb179 (Nat.le_of_eq hg.symm)) hb)
                          have n6_ := Aside0.mk (Kd.V_below (Kd.V_elderB (by (with_reducible repeat (first | apply Kd.V_alloc | apply Kd.V_drewN | apply Kd.V_drew)); exact HO174.out) gb179 (Nat.le_of_eq hg.symm)) hb)
                          have n7_ := Aside0.mk (Kd.V_below (Kd.V_elderB (by (with_reducible repeat (first | apply Kd.V_alloc | apply Kd.V_drewN | apply Kd.V_drew)); exact HO177.out) gb179 (Nat.le_of_eq hg.symm)) hb)
                          have n8_ := Aside0.mk (blk_below (g := gb149) (o := .cells #[.slice Ao36 t159.length co36, .slice Ao39 t162.length co39] 27 (0, 0)) (by (with_reducible repeat (first | refine blk_drewN ?_ _ | refine blk_drew ?_ | refine blk_alloc ?_ _)); exact BK149.out) hb)
                          have n9_ := Aside0.mk (blk_below (g := gb167) (o := .cells #[.slice Ao36 t159.length co36, .slice Ao39 t162.length co39] 27 (0, 0)) (by (with_reducible repeat (first | refine blk_drewN ?_ _ | refine blk_drew ?_ | refine blk_alloc ?_ _)); exact BK167.out) hb)
                          have n10_ := Aside0.mk (below_step (by repeat (first | (with_reducible first | exact HB.out | apply below_alloc | apply pw_below_drewN | apply below_drew1 | refine below_set ?_ GE149.out | refine below_set ?_ GE167.out) | exact HB.out)) hb)
                          have n11_ := Aside0.mk (hbox)
                          have n12_ := Aside0.mk ((by rw [hg]; exact (below_size (by repeat (first | (with_reducible first | exact HB.out | apply below_alloc | apply pw_below_drewN | apply below_drew1 | refine below_set ?_ GE149.out | refine below_set ?_ GE167.out) | exact HB.out))) : w.heap.size ≤ gb179))
                          have n13_ := Aside0.mk ((by rw [hg]; exact (below_size (by repeat (first | (with_reducible first | exact HB.out | apply below_alloc | apply pw_below_drewN | apply below_drew1 | refine below_set ?_ GE149.out | refine below_set ?_ GE167.out) | exact HB.out))) : w.heap.size ≤ gb179))
                          have n14_ := Aside0.mk ((by rw [hg]; exact Nat.ne_of_lt (blk_lt (g := gb149) (o := .cells #[.slice Ao36 t159.length co36, .slice Ao39 t162.length co39] 27 (0, 0)) (by (with_reducible repeat (first | refine blk_drewN ?_ _ | refine blk_drew ?_ | refine blk_alloc ?_ _)); exact BK149.out)) : gb149 ≠ gb179))
                          have n15_ := Aside0.mk ((by rw [hg]; exact Nat.ne_of_gt (blk_lt (g := gb149) (o := .cells #[.slice Ao36 t159.length co36, .slice Ao39 t162.length co39] 27 (0, 0)) (by (with_reducible repeat (first | refine blk_drewN ?_ _ | refine blk_drew ?_ | refine blk_alloc ?_ _)); exact BK149.out)) : gb179 ≠ gb149))
                          have n16_ := Aside0.mk ((by rw [hg]; exact Nat.ne_of_lt (blk_lt (g := gb167) (o := .cells #[.slice Ao36 t159.length co36, .slice Ao39 t162.length co39] 27 (0, 0)) (by (with_reducible repeat (first | refine blk_drewN ?_ _ | refine blk_drew ?_ | refine blk_alloc ?_ _)); exact BK167.out)) : gb167 ≠ gb179))
                          have n17_ := Aside0.mk ((by rw [hg]; exact Nat.ne_of_gt (blk_lt (g := gb167) (o := .cells #[.slice Ao36 t159.length co36, .slice Ao39 t162.length co39] 27 (0, 0)) (by (with_reducible repeat (first | refine blk_drewN ?_ _ | refine blk_drew ?_ | refine blk_alloc ?_ _)); exact BK167.out)) : gb179 ≠ gb167))
                          clear HO_6
                          clear HO_7
                          clear HO_150000
                          clear HO_150001
                          clear HO_168000
                          clear HO_168001
                          clear HO174
                          clear HO177
                          clear BK149
                          clear BK167
                          clear HB
                          have HO_6 := n0_
                          have HO_7 := n1_
                          have HO_150000 := n2_
                          have HO_150001 := n3_
                          have HO_168000 := n4_
                          have HO_168001 := n5_
                          have HO174 := n6_
                          have HO177 := n7_
                          have BK149 := n8_
                          have BK167 := n9_
                          have HB := n10_
                          have BK179 := n11_
                          have GW179 := n12_
                          have GE179 := n13_
                          have NB149_179 := n14_
                          have NB179_149 := n15_
                          have NB167_179 := n16_
                          have NB179_167 := n17_
                          clear n0_ n1_ n2_ n3_ n4_ n5_ n6_ n7_ n8_ n9_ n10_ n11_ n12_ n13_ n14_ n15_ n16_ n17_
                          clear hb hbox hg
                          refine hK.out _ _ ⟨(blk_cell BK149.out 0).trans rfl, (blk_cell BK149.out 1).trans rfl, HS2_⟩ (fun hHeld => ?_)
                          clear hK K
                          refine norm_ (a' := ?_) ?_ ?_
                          rotate_left
                          ·show Act.put _ (some 13) _ = _
                           simp only [Act.put, List.setIfInBounds_toArray, List.set_cons_zero, List.set_cons_succ, i64_w, i32_w]
                           rfl
                          exact norm_ (by simp only [putAll, Act.put, List.setIfInBounds_toArray, List.set_cons_zero, List.set_cons_succ]) (hCont (v173, v176, gb179) _ ⟨hHeld, (by (with_reducible repeat (first | apply Kd.V_alloc | apply Kd.V_drewN | apply Kd.V_drew)); exact Kd.V_mono HO174.out (fun _ hk => ⟨hk.1.1, ⟨hk.1.2.1, ⟨hk.1.2.2.1, ⟨hk.1.2.2.2, hk.2⟩⟩⟩⟩)), (by (with_reducible repeat (first | apply Kd.V_alloc | apply Kd.V_drewN | apply Kd.V_drew)); exact Kd.V_mono HO177.out (fun _ hk => ⟨hk.1.1, ⟨hk.1.2.1, ⟨hk.1.2.2.1, ⟨hk.1.2.2.2, hk.2⟩⟩⟩⟩)), (by (with_reducible repeat (first | apply Kd.V_alloc | apply Kd.V_drewN | apply Kd.V_drew)); exact Kd.V_mono HO_150000.out (fun _ hk => ⟨hk.1.1, ⟨hk.1.2.1, ⟨hk.1.2.2.1, ⟨hk.1.2.2.2, hk.2⟩⟩⟩⟩)), (by (with_reducible repeat (first | apply Kd.V_alloc | apply Kd.V_drewN | apply Kd.V_drew)); exact Kd.V_mono HO_150001.out (fun _ hk => ⟨hk.1.1, ⟨hk.1.2.1, ⟨hk.1.2.2.1, ⟨hk.1.2.2.2, hk.2⟩⟩⟩⟩)), (by (with_reducible repeat (first | apply Kd.V_alloc | apply Kd.V_drewN | apply Kd.V_drew)); exact Kd.V_mono HO_168000.out (fun _ hk => ⟨hk.1.1, ⟨hk.1.2.1, ⟨hk.1.2.2.1, ⟨hk.1.2.2.2, hk.2⟩⟩⟩⟩)), (by (with_reducible repeat (first | apply Kd.V_alloc | apply Kd.V_drewN | apply Kd.V_drew)); exact Kd.V_mono HO_168001.out (fun _ hk => ⟨hk.1.1, ⟨hk.1.2.1, ⟨hk.1.2.2.1, ⟨hk.1.2.2.2, hk.2⟩⟩⟩⟩)), (by (with_reducible repeat (first | apply Kd.R_alloc | apply Kd.R_drewN | apply Kd.R_drew)); exact HO_6.out), (by (with_reducible repeat (first | apply Kd.R_alloc | apply Kd.R_drewN | apply Kd.R_drew)); exact HO_7.out), (by (with_reducible repeat (first | refine blk_drewN ?_ _ | refine blk_drew ?_ | refine blk_alloc ?_ _)); exact BK149.out), (by (with_reducible repeat (first | refine blk_drewN ?_ _ | refine blk_drew ?_ | refine blk_alloc ?_ _)); exact BK167.out), (by (with_reducible repeat (first | refine blk_drewN ?_ _ | refine blk_drew ?_ | refine blk_alloc ?_ _)); exact BK179.out), GW179.out, GE179.out, NB149_179.out, NB179_149.out, NB167_179.out, NB179_167.out, (by repeat (first | (with_reducible first | exact HB.out | apply below_alloc | apply pw_below_drewN | apply below_drew1 | refine below_set ?_ GE149.out | refine below_set ?_ GE167.out | refine below_set ?_ GE179.out) | exact HB.out))⟩)
                         ·skip
                          refine box_step ?hg (N := 13) ?hd (cs := #[.slice none 0 0, .slice none 0 0]) (t := 27) ?hr ?_; (case hd => rfl); (case hg => rfl); (case hr => first | (go_simp; done) | (go_simp; rfl))
                          intro gb179 hg w64 hbox hb
                          have HS2_ := (hb.cell (World.block_lt_of_cell? _ _ (hHeld.2.2))).trans (hHeld.2.2)
                          have n0_ := Aside0.mk (Kd.R_below (by (with_reducible repeat (first | apply Kd.R_alloc | apply Kd.R_drewN | apply Kd.R_drew)); exact HO_6.out) hb)
                          have n1_ := Aside0.mk (Kd.R_below (by (with_reducible repeat (first | apply Kd.R_alloc | apply Kd.R_drewN | apply Kd.R_drew)); exact HO_7.out) hb)
                          have n2_ := Aside0.mk (Kd.V_below (Kd.V_elderB (by (with_reducible repeat (first | apply Kd.V_alloc | apply Kd.V_drewN | apply Kd.V_drew)); exact HO_150000.out) gb179 (Nat.le_of_eq hg.symm)) hb)
                          have n3_ := Aside0.mk (Kd.V_below (Kd.V_elderB (by (with_reducible repeat (first | apply Kd.V_alloc | apply Kd.V_drewN | apply Kd.V_drew)); exact HO_150001.out) gb179 (Nat.le_of_eq hg.symm)) hb)
                          have n4_ := Aside0.mk (Kd.V_below (Kd.V_elderB (by (with_reducible repeat (first | apply Kd.V_alloc | apply Kd.V_drewN | apply Kd.V_drew)); exact HO_168000.out) gb179 (Nat.le_of_eq hg.symm)) hb)
                          have n5_ := Aside0.mk (Kd.V_below (Kd.V_elderB (by (with_reducible repeat (first | apply Kd.V_alloc | apply Kd.V_drewN | apply Kd.V_drew)); exact HO_168001.out) gb179 (Nat.le_of_eq hg.symm)) hb)
                          have n6_ := Aside0.mk (blk_below (g := gb149) (o := .cells #[.slice Ao36 t159.length co36, .slice Ao39 t162.length co39] 27 (0, 0)) (by (with_reducible repeat (first | refine blk_drewN ?_ _ | refine blk_drew ?_ | refine blk_alloc ?_ _)); exact BK149.out) hb)
                          have n7_ := Aside0.mk (blk_below (g := gb167) (o := .cells #[.slice Ao36 t159.length co36, .slice Ao39 t162.length co39] 27 (0, 0)) (by (with_reducible repeat (first | refine blk_drewN ?_ _ | refine blk_drew ?_ | refine blk_alloc ?_ _)); exact BK167.out) hb)
                          have n8_ := Aside0.mk (below_step (by repeat (first | (with_reducible first | exact HB.out | apply below_alloc | apply pw_below_drewN | apply below_drew1 | refine below_set ?_ GE149.out | refine below_set ?_ GE167.out) | exact HB.out)) hb)
                          have n9_ := Aside0.mk (hbox)
                          have n10_ := Aside0.mk ((by rw [hg]; exact (below_size (by repeat (first | (with_reducible first | exact HB.out | apply below_alloc | apply pw_below_drewN | apply below_drew1 | refine below_set ?_ GE149.out | refine below_set ?_ GE167.out) | exact HB.out))) : w.heap.size ≤ gb179))
                          have n11_ := Aside0.mk ((by rw [hg]; exact (below_size (by repeat (first | (with_reducible first | exact HB.out | apply below_alloc | apply pw_below_drewN | apply below_drew1 | refine below_set ?_ GE149.out | refine below_set ?_ GE167.out) | exact HB.out))) : w.heap.size ≤ gb179))
                          have n12_ := Aside0.mk ((by rw [hg]; exact Nat.ne_of_lt (blk_lt (g := gb149) (o := .cells #[.slice Ao36 t159.length co36, .slice Ao39 t162.length co39] 27 (0, 0)) (by (with_reducible repeat (first | refine blk_drewN ?_ _ | refine blk_drew ?_ | refine blk_alloc ?_ _)); exact BK149.out)) : gb149 ≠ gb179))
                          have n13_ := Aside0.mk ((by rw [hg]; exact Nat.ne_of_gt (blk_lt (g := gb149) (o := .cells #[.slice Ao36 t159.length co36, .slice Ao39 t162.length co39] 27 (0, 0)) (by (with_reducible repeat (first | refine blk_drewN ?_ _ | refine blk_drew ?_ | refine blk_alloc ?_ _)); exact BK149.out)) : gb179 ≠ gb149))
                          have n14_ := Aside0.mk ((by rw [hg]; exact Nat.ne_of_lt (blk_lt (g := gb167) (o := .cells #[.slice Ao36 t159.length co36, .slice Ao39 t162.length co39] 27 (0, 0)) (by (with_reducible repeat (first | refine blk_drewN ?_ _ | refine blk_drew ?_ | refine blk_alloc ?_ _)); exact BK167.out)) : gb167 ≠ gb179))
                          have n15_ := Aside0.mk ((by rw [hg]; exact Nat.ne_of_gt (blk_lt (g := gb167) (o := .cells #[.slice Ao36 t159.length co36, .slice Ao39 t162.length co39] 27 (0, 0)) (by (with_reducible repeat (first | refine blk_drewN ?_ _ | refine blk_drew ?_ | refine blk_alloc ?_ _)); exact BK167.out)) : gb179 ≠ gb167))
                          clear HO_6
                          clear HO_7
                          clear HO_150000
                          clear HO_150001
                          clear HO_168000
                          clear HO_168001
                          clear BK149
                          clear BK167
                          clear HB
                          have HO_6 := n0_
                          have HO_7 := n1_
                          have HO_150000 := n2_
                          have HO_150001 := n3_
                          have HO_168000 := n4_
                          have HO_168001 := n5_
                          have BK149 := n6_
                          have BK167 := n7_
                          have HB := n8_
                          have BK179 := n9_
                          have GW179 := n10_
                          have GE179 := n11_
                          have NB149_179 := n12_
                          have NB179_149 := n13_
                          have NB167_179 := n14_
                          have NB179_167 := n15_
                          clear n0_ n1_ n2_ n3_ n4_ n5_ n6_ n7_ n8_ n9_ n10_ n11_ n12_ n13_ n14_ n15_
                          clear hb hbox hg
                          refine hK.out _ _ ⟨(blk_cell BK149.out 0).trans rfl, (blk_cell BK149.out 1).trans rfl, HS2_⟩ (fun hHeld => ?_)
                          clear hK K
                          refine norm_ (a' := ?_) ?_ ?_
                          rotate_left
                          ·show Act.put _ (some 13) _ = _
                           simp only [Act.put, List.setIfInBounds_toArray, List.set_cons_zero, List.set_cons_succ, i64_w, i32_w]
                           rfl
                          refine one_ (i := 6) (N := some 83) #[true, true, true, true, true, true, true, false, false, false, true, false, false] rfl rfl (one_of HT_.out (by kernel_rfl)) (by decide) (fun K hK => ?_)
                          refine goes_ Try.func9 (by kernel_rfl) rfl #[.agg #[.slice Ao36 t159.length co36, .slice Ao39 t162.length co39], .int .i64 (rd y168 (ji54))] (by rfl) rfl rfl (by (try simp only [List.map_toArray, List.map_cons, List.map_nil]); first | done | (simp only [hji54]; rfl) | rfl | (simp only [List.length_drop, List.length_take]; rfl)) ?_
                          with_reducible refine (intern_Drop.calls (fun k_ => ((some k_ ≠ (.slice (some ⟨go29, 0, none⟩) y168.length co29 : Value).ownBlock ∧ (some k_ ≠ (v154 : Value).ownBlock ∧ (k_ ≠ gb149 ∧ k_ ≠ gb167))) ∧ k_ ≠ gb179)) _ _ t159 (fun k_ => ((some k_ ≠ (.slice (some ⟨go29, 0, none⟩) y168.length co29 : Value).ownBlock ∧ (some k_ ≠ (v154 : Value).ownBlock ∧ (k_ ≠ gb149 ∧ k_ ≠ gb167))) ∧ k_ ≠ gb179)) _ _ t162 (rd y168 (ji54)) t172 t175 t178 _ ?side1 ?side2 A57.out).mono ?_
                          (case side1 => exact HO_150000.out)
                          (case side2 => exact HO_150001.out)
                          rintro e w65 ⟨v173, v176, rfl, ho0, ho1, hb⟩
                          have HS2_ := (hb.cell (World.block_lt_of_cell? _ _ (hHeld.2.2))).trans (hHeld.2.2)
                          refine ⟨_, rfl, ?_⟩
                          have n0_ := Aside0.mk (Kd.R_below (by (with_reducible repeat (first | apply Kd.R_alloc | apply Kd.R_drewN | apply Kd.R_drew)); exact HO_6.out) hb)
                          have n1_ := Aside0.mk (Kd.R_below (by (with_reducible repeat (first | apply Kd.R_alloc | apply Kd.R_drewN | apply Kd.R_drew)); exact HO_7.out) hb)
                          have n2_ := Aside0.mk (Kd.V_below (by (with_reducible repeat (first | apply Kd.V_alloc | apply Kd.V_drewN | apply Kd.V_drew)); exact HO_150000.out) hb)
                          have n3_ := Aside0.mk (Kd.V_below (by (with_reducible repeat (first | apply Kd.V_alloc | apply Kd.V_drewN | apply Kd.V_drew)); exact HO_150001.out) hb)
                          have n4_ := Aside0.mk (Kd.V_below (by (with_reducible repeat (first | apply Kd.V_alloc | apply Kd.V_drewN | apply Kd.V_drew)); exact HO_168000.out) hb)
                          have n5_ := Aside0.mk (Kd.V_below (by (with_reducible repeat (first | apply Kd.V_alloc | apply Kd.V_drewN | apply Kd.V_drew)); exact HO_168001.out) hb)
                          have n6_ := Aside0.mk (Kd.V_lower (Kd.V_mono (ok' := fun k_ => some k_ ≠ (.slice (some ⟨go29, 0, none⟩) y168.length co29 : Value).ownBlock ∧ some k_ ≠ (v154 : Value).ownBlock ∧ k_ ≠ gb149 ∧ k_ ≠ gb167 ∧ k_ ≠ gb179) ho0 (fun k_ hk_ => ⟨Or.elim hk_ (fun hs_ => Or.elim hs_ (fun hs_ => hs_.1.1) (fun hs_ => hs_.1.1)) (fun hn_ => (Kd.fresh' (Kd.R_lt (by (with_reducible repeat (first | apply Kd.R_alloc | apply Kd.R_drewN | apply Kd.R_drew)); exact HO_6.out)) k_ hn_)), Or.elim hk_ (fun hs_ => Or.elim hs_ (fun hs_ => hs_.1.2.1) (fun hs_ => hs_.1.2.1)) (fun hn_ => (Kd.fresh' (Kd.R_lt (by (with_reducible repeat (first | apply Kd.R_alloc | apply Kd.R_drewN | apply Kd.R_drew)); exact HO_7.out)) k_ hn_)), Or.elim hk_ (fun hs_ => Or.elim hs_ (fun hs_ => hs_.1.2.2.1) (fun hs_ => hs_.1.2.2.1)) (fun hn_ => (Kd.freshB (g := gb149) (o := .cells #[.slice Ao36 t159.length co36, .slice Ao39 t162.length co39] 27 (0, 0)) (by (with_reducible repeat (first | refine blk_drewN ?_ _ | refine blk_drew ?_ | refine blk_alloc ?_ _)); exact BK149.out) k_ hn_)), Or.elim hk_ (fun hs_ => Or.elim hs_ (fun hs_ => hs_.1.2.2.2) (fun hs_ => hs_.1.2.2.2)) (fun hn_ => (Kd.freshB (g := gb167) (o := .cells #[.slice Ao36 t159.length co36, .slice Ao39 t162.length co39] 27 (0, 0)) (by (with_reducible repeat (first | refine blk_drewN ?_ _ | refine blk_drew ?_ | refine blk_alloc ?_ _)); exact BK167.out) k_ hn_)), Or.elim hk_ (fun hs_ => Or.elim hs_ (fun hs_ => hs_.2) (fun hs_ => hs_.2)) (fun hn_ => (Kd.freshB (g := gb179) (o := .cells #[.slice none 0 0, .slice none 0 0] 27 (0, 0)) (by (with_reducible repeat (first | refine blk_drewN ?_ _ | refine blk_drew ?_ | refine blk_alloc ?_ _)); exact BK179.out) k_ hn_))⟩)) (below_size (by repeat (first | (with_reducible first | exact HB.out | apply below_alloc | apply pw_below_drewN | apply below_drew1 | refine below_set ?_ GE149.out | refine below_set ?_ GE167.out | refine below_set ?_ GE179.out) | exact HB.out))))
                          have n7_ := Aside0.mk (Kd.V_lower (Kd.V_mono (ok' := fun k_ => some k_ ≠ (.slice (some ⟨go29, 0, none⟩) y168.length co29 : Value).ownBlock ∧ some k_ ≠ (v154 : Value).ownBlock ∧ k_ ≠ gb149 ∧ k_ ≠ gb167 ∧ k_ ≠ gb179) ho1 (fun k_ hk_ => ⟨Or.elim hk_ (fun hs_ => Or.elim hs_ (fun hs_ => hs_.1.1) (fun hs_ => hs_.1.1)) (fun hn_ => (Kd.fresh' (Kd.R_lt (by (with_reducible repeat (first | apply Kd.R_alloc | apply Kd.R_drewN | apply Kd.R_drew)); exact HO_6.out)) k_ hn_)), Or.elim hk_ (fun hs_ => Or.elim hs_ (fun hs_ => hs_.1.2.1) (fun hs_ => hs_.1.2.1)) (fun hn_ => (Kd.fresh' (Kd.R_lt (by (with_reducible repeat (first | apply Kd.R_alloc | apply Kd.R_drewN | apply Kd.R_drew)); exact HO_7.out)) k_ hn_)), Or.elim hk_ (fun hs_ => Or.elim hs_ (fun hs_ => hs_.1.2.2.1) (fun hs_ => hs_.1.2.2.1)) (fun hn_ => (Kd.freshB (g := gb149) (o := .cells #[.slice Ao36 t159.length co36, .slice Ao39 t162.length co39] 27 (0, 0)) (by (with_reducible repeat (first | refine blk_drewN ?_ _ | refine blk_drew ?_ | refine blk_alloc ?_ _)); exact BK149.out) k_ hn_)), Or.elim hk_ (fun hs_ => Or.elim hs_ (fun hs_ => hs_.1.2.2.2) (fun hs_ => hs_.1.2.2.2)) (fun hn_ => (Kd.freshB (g := gb167) (o := .cells #[.slice Ao36 t159.length co36, .slice Ao39 t162.length co39] 27 (0, 0)) (by (with_reducible repeat (first | refine blk_drewN ?_ _ | refine blk_drew ?_ | refine blk_alloc ?_ _)); exact BK167.out) k_ hn_)), Or.elim hk_ (fun hs_ => Or.elim hs_ (fun hs_ => hs_.2) (fun hs_ => hs_.2)) (fun hn_ => (Kd.freshB (g := gb179) (o := .cells #[.slice none 0 0, .slice none 0 0] 27 (0, 0)) (by (with_reducible repeat (first | refine blk_drewN ?_ _ | refine blk_drew ?_ | refine blk_alloc ?_ _)); exact BK179.out) k_ hn_))⟩)) (below_size (by repeat (first | (with_reducible first | exact HB.out | apply below_alloc | apply pw_below_drewN | apply below_drew1 | refine below_set ?_ GE149.out | refine below_set ?_ GE167.out | refine below_set ?_ GE179.out) | exact HB.out))))
                          have n8_ := Aside0.mk (blk_below (g := gb149) (o := .cells #[.slice Ao36 t159.length co36, .slice Ao39 t162.length co39] 27 (0, 0)) (by (with_reducible repeat (first | refine blk_drewN ?_ _ | refine blk_drew ?_ | refine blk_alloc ?_ _)); exact BK149.out) hb)
                          have n9_ := Aside0.mk (blk_below (g := gb167) (o := .cells #[.slice Ao36 t159.length co36, .slice Ao39 t162.length co39] 27 (0, 0)) (by (with_reducible repeat (first | refine blk_drewN ?_ _ | refine blk_drew ?_ | refine blk_alloc ?_ _)); exact BK167.out) hb)
                          have n10_ := Aside0.mk (blk_below (g := gb179) (o := .cells #[.slice none 0 0, .slice none 0 0] 27 (0, 0)) (by (with_reducible repeat (first | refine blk_drewN ?_ _ | refine blk_drew ?_ | refine blk_alloc ?_ _)); exact BK179.out) hb)
                          have n11_ := Aside0.mk (below_step (by repeat (first | (with_reducible first | exact HB.out | apply below_alloc | apply pw_below_drewN | apply below_drew1 | refine below_set ?_ GE149.out | refine below_set ?_ GE167.out | refine below_set ?_ GE179.out) | exact HB.out)) hb)
                          clear HO_6
                          clear HO_7
                          clear HO_150000
                          clear HO_150001
                          clear HO_168000
                          clear HO_168001
                          clear BK149
                          clear BK167
                          clear BK179
                          clear HB
                          have HO_6 := n0_
                          have HO_7 := n1_
                          have HO_150000 := n2_
                          have HO_150001 := n3_
                          have HO_168000 := n4_
                          have HO_168001 := n5_
                          have HO174 := n6_
                          have HO177 := n7_
                          have BK149 := n8_
                          have BK167 := n9_
                          have BK179 := n10_
                          have HB := n11_
                          clear n0_ n1_ n2_ n3_ n4_ n5_ n6_ n7_ n8_ n9_ n10_ n11_
                          (try clear hb)
                          (try clear hb2)
                          (try clear hk)
                          (try clear hi)
                          (try clear ho0)
                          (try clear ho1)
                          refine hK.out _ _ ⟨(blk_cell BK149.out 0).trans rfl, (blk_cell BK149.out 1).trans rfl, HS2_⟩ (fun hHeld => ?_)
                          clear hK K
                          refine norm_ (a' := ?_) ?_ ?_
                          rotate_left
                          ·show Act.put _ (some 83) _ = _
                           simp only [Act.put, List.setIfInBounds_toArray, List.set_cons_zero, List.set_cons_succ, i64_w, i32_w]
                           rfl
                          refine pure_ (i := 7) (N := some 76) (v := ?_) (a' := ?_) #[true, true, true, true, true, true, true, true, false, false, true, false, false] rfl rfl (any_of HT_.out (by kernel_rfl)) (fun _ _ _ h => h) (Or.inl ⟨by rfl, ?_⟩) ?_ ?_
                          rotate_left
                          ·intro w'
                           go_simp
                           with_reducible rfl
                          rotate_left
                          ·simp only [Act.put, List.setIfInBounds_toArray, List.set_cons_zero, List.set_cons_succ, i64_w, i32_w]
                           rfl
                          refine pure_ (i := 8) (N := some 84) (v := ?_) (a' := ?_) #[true, true, true, true, true, true, true, true, true, false, true, false, false] rfl rfl (any_of HT_.out (by kernel_rfl)) (fun _ _ _ h => h) (Or.inl ⟨by rfl, ?_⟩) ?_ ?_
                          rotate_left
                          ·intro w'
                           go_simp
                           with_reducible rfl
                          rotate_left
                          ·simp only [Act.put, List.setIfInBounds_toArray, List.set_cons_zero, List.set_cons_succ, i64_w, i32_w]
                           rfl
                          refine pure_ (i := 9) (N := some 85) (v := ?_) (a' := ?_) #[true, true, true, true, true, true, true, true, true, true, true, false, false] rfl rfl (any_of HT_.out (by kernel_rfl)) (fun _ _ _ h => h) (Or.inl ⟨by rfl, ?_⟩) ?_ ?_
                          rotate_left
                          ·intro w'
                           go_simp
                           with_reducible rfl
                          rotate_left
                          ·simp only [Act.put, List.setIfInBounds_toArray, List.set_cons_zero, List.set_cons_succ, i64_w, i32_w]
                           rfl
                          exact norm_ (by simp only [putAll, Act.put, List.setIfInBounds_toArray, List.set_cons_zero, List.set_cons_succ]) (hCont (v173, v176, gb179) _ ⟨hHeld, (by (with_reducible repeat (first | apply Kd.V_alloc | apply Kd.V_drewN | apply Kd.V_drew)); exact HO174.out), (by (with_reducible repeat (first | apply Kd.V_alloc | apply Kd.V_drewN | apply Kd.V_drew)); exact HO177.out), (by (with_reducible repeat (first | apply Kd.V_alloc | apply Kd.V_drewN | apply Kd.V_drew)); exact Kd.V_mono HO_150000.out (fun _ hk => ⟨hk.1.1, ⟨hk.1.2.1, ⟨hk.1.2.2.1, ⟨hk.1.2.2.2, hk.2⟩⟩⟩⟩)), (by (with_reducible repeat (first | apply Kd.V_alloc | apply Kd.V_drewN | apply Kd.V_drew)); exact Kd.V_mono HO_150001.out (fun _ hk => ⟨hk.1.1, ⟨hk.1.2.1, ⟨hk.1.2.2.1, ⟨hk.1.2.2.2, hk.2⟩⟩⟩⟩)), (by (with_reducible repeat (first | apply Kd.V_alloc | apply Kd.V_drewN | apply Kd.V_drew)); exact Kd.V_mono HO_168000.out (fun _ hk => ⟨hk.1.1, ⟨hk.1.2.1, ⟨hk.1.2.2.1, ⟨hk.1.2.2.2, hk.2⟩⟩⟩⟩)), (by (with_reducible repeat (first | apply Kd.V_alloc | apply Kd.V_drewN | apply Kd.V_drew)); exact Kd.V_mono HO_168001.out (fun _ hk => ⟨hk.1.1, ⟨hk.1.2.1, ⟨hk.1.2.2.1, ⟨hk.1.2.2.2, hk.2⟩⟩⟩⟩)), (by (with_reducible repeat (first | apply Kd.R_alloc | apply Kd.R_drewN | apply Kd.R_drew)); exact HO_6.out), (by (with_reducible repeat (first | apply Kd.R_alloc | apply Kd.R_drewN | apply Kd.R_drew)); exact HO_7.out), (by (with_reducible repeat (first | refine blk_drewN ?_ _ | refine blk_drew ?_ | refine blk_alloc ?_ _)); exact BK149.out), (by (with_reducible repeat (first | refine blk_drewN ?_ _ | refine blk_drew ?_ | refine blk_alloc ?_ _)); exact BK167.out), (by (with_reducible repeat (first | refine blk_drewN ?_ _ | refine blk_drew ?_ | refine blk_alloc ?_ _)); exact BK179.out), GW179.out, GE179.out, NB149_179.out, NB179_149.out, NB167_179.out, NB179_167.out, (by repeat (first | (with_reducible first | exact HB.out | apply below_alloc | apply pw_below_drewN | apply below_drew1 | refine below_set ?_ GE149.out | refine below_set ?_ GE167.out | refine below_set ?_ GE179.out) | exact HB.out))⟩)
                        rintro ⟨v173, v176, gb179⟩ w66 ⟨hS_, h0_, h1_, h2_, h3_, h4_, h5_, h6_, h7_, h8_, h9_, h10_, h11_, h12_, h13_, h14_, h15_, h16_, h17_⟩
                        have n0_ : Aside0 (Kd.V (Kd.slice 57 k57) 29 w66 w.heap.size (fun k_ => some k_ ≠ (.slice (some ⟨go29, 0, none⟩) y168.length co29 : Value).ownBlock ∧ some k_ ≠ (v154 : Value).ownBlock ∧ k_ ≠ gb149 ∧ k_ ≠ gb167 ∧ k_ ≠ gb179) v173 t172) := ⟨h0_⟩
                        have n1_ : Aside0 (Kd.V (Kd.int .i64) 3 w66 w.heap.size (fun k_ => some k_ ≠ (.slice (some ⟨go29, 0, none⟩) y168.length co29 : Value).ownBlock ∧ some k_ ≠ (v154 : Value).ownBlock ∧ k_ ≠ gb149 ∧ k_ ≠ gb167 ∧ k_ ≠ gb179) v176 t175) := ⟨h1_⟩
                        have n2_ : Aside0 (Kd.V (Kd.slice 57 k57) 29 w66 w.heap.size (fun k_ => some k_ ≠ (.slice (some ⟨go29, 0, none⟩) y168.length co29 : Value).ownBlock ∧ some k_ ≠ (v154 : Value).ownBlock ∧ k_ ≠ gb149 ∧ k_ ≠ gb167 ∧ k_ ≠ gb179) (.slice Ao36 t159.length co36) t159) := ⟨h2_⟩
                        have n3_ : Aside0 (Kd.V (Kd.int .i64) 3 w66 w.heap.size (fun k_ => some k_ ≠ (.slice (some ⟨go29, 0, none⟩) y168.length co29 : Value).ownBlock ∧ some k_ ≠ (v154 : Value).ownBlock ∧ k_ ≠ gb149 ∧ k_ ≠ gb167 ∧ k_ ≠ gb179) (.slice Ao39 t162.length co39) t162) := ⟨h3_⟩
                        have n4_ : Aside0 (Kd.V (Kd.slice 57 k57) 29 w66 w.heap.size (fun k_ => some k_ ≠ (.slice (some ⟨go29, 0, none⟩) y168.length co29 : Value).ownBlock ∧ some k_ ≠ (v154 : Value).ownBlock ∧ k_ ≠ gb149 ∧ k_ ≠ gb167 ∧ k_ ≠ gb179) (.slice Ao36 t159.length co36) t159) := ⟨h4_⟩
                        have n5_ : Aside0 (Kd.V (Kd.int .i64) 3 w66 w.heap.size (fun k_ => some k_ ≠ (.slice (some ⟨go29, 0, none⟩) y168.length co29 : Value).ownBlock ∧ some k_ ≠ (v154 : Value).ownBlock ∧ k_ ≠ gb149 ∧ k_ ≠ gb167 ∧ k_ ≠ gb179) (.slice Ao39 t162.length co39) t162) := ⟨h5_⟩
                        have n6_ : Aside0 (Kd.R (Kd.int .i64) 3 w66 w.heap.size (fun _ => True) (.slice (some ⟨go29, 0, none⟩) y168.length co29) y168) := ⟨h6_⟩
                        have n7_ : Aside0 (Kd.R Kd.bool 4 w66 w.heap.size (fun _ => True) v154 x7_1) := ⟨h7_⟩
                        have n8_ : Aside0 (w66.heap[gb149]? = some (.cells #[.slice Ao36 t159.length co36, .slice Ao39 t162.length co39] 27 (0, 0))) := ⟨h8_⟩
                        have n9_ : Aside0 (w66.heap[gb167]? = some (.cells #[.slice Ao36 t159.length co36, .slice Ao39 t162.length co39] 27 (0, 0))) := ⟨h9_⟩
                        have n10_ : Aside0 (w66.heap[gb179]? = some (.cells #[.slice none 0 0, .slice none 0 0] 27 (0, 0))) := ⟨h10_⟩
                        have n11_ : Aside0 (w.heap.size ≤ gb179) := ⟨h11_⟩
                        have n12_ : Aside0 (w.heap.size ≤ gb179) := ⟨h12_⟩
                        have n13_ : Aside0 (gb149 ≠ gb179) := ⟨h13_⟩
                        have n14_ : Aside0 (gb179 ≠ gb149) := ⟨h14_⟩
                        have n15_ : Aside0 (gb167 ≠ gb179) := ⟨h15_⟩
                        have n16_ : Aside0 (gb179 ≠ gb167) := ⟨h16_⟩
                        have n17_ : Aside0 (Below w.heap.size w w66) := ⟨h17_⟩
                        clear HO_6
                        clear HO_7
                        clear HO_150000
                        clear HO_150001
                        clear HO_168000
                        clear HO_168001
                        clear BK149
                        clear BK167
                        clear HB
                        clear h0_ h1_ h2_ h3_ h4_ h5_ h6_ h7_ h8_ h9_ h10_ h11_ h12_ h13_ h14_ h15_ h16_ h17_
                        have HO174 := n0_
                        have HO177 := n1_
                        have HO_150000 := n2_
                        have HO_150001 := n3_
                        have HO_168000 := n4_
                        have HO_168001 := n5_
                        have HO_6 := n6_
                        have HO_7 := n7_
                        have BK149 := n8_
                        have BK167 := n9_
                        have BK179 := n10_
                        have GW179 := n11_
                        have GE179 := n12_
                        have NB149_179 := n13_
                        have NB179_149 := n14_
                        have NB167_179 := n15_
                        have NB179_167 := n16_
                        have HB := n17_
                        clear n0_ n1_ n2_ n3_ n4_ n5_ n6_ n7_ n8_ n9_ n10_ n11_ n12_ n13_ n14_ n15_ n16_ n17_
                        have hHeld : w66.cell? ⟨gb149, 0, none⟩ = some (.slice Ao36 t159.length co36) ∧ w66.cell? ⟨gb149, 1, none⟩ = some (.slice Ao39 t162.length co39) ∧ w66.cell? ⟨go29, ((ji54)).toNat, none⟩ = some (.int .i64 (rd y168 (ji54))) := hS_
                        obtain ⟨Ao67, co67, eo67⟩ := Kd.V_slice HO174.out
                        (first | subst eo67 | (injection eo67 with f1_ f2_ f3_; have f4_ := f1_.symm; have f5_ := f3_.symm; clear f1_ f2_ f3_; subst f4_; subst f5_))
                        obtain ⟨Ao69, co69, eo69⟩ := Kd.V_slice HO177.out
                        (first | subst eo69 | (injection eo69 with f1_ f2_ f3_; have f4_ := f1_.symm; have f5_ := f3_.symm; clear f1_ f2_ f3_; subst f4_; subst f5_))
                        refine norm_ (a' := ?_) ?_ ?_
                        rotate_left
                        ·simp only [putAll, Act.put, List.setIfInBounds_toArray, List.set_cons_zero, List.set_cons_succ]
                         rfl
                        refine one_ (i := 11) (N := none) #[true, true, true, true, true, true, true, true, true, true, true, true, false] rfl rfl (one_of HT_.out (by kernel_rfl)) (by decide) (fun K hK => ?_)
                        have hs68 : w66.cell? ⟨gb179, 0, none⟩ = some (.slice none 0 0) := (blk_cell BK179.out 0).trans rfl
                        have hfs68 := blk_frozen BK179.out 0
                        have hns68_0 := NB149_179.out
                        have hns68_1 := NB167_179.out
                        have hms68_0 := NB179_149.out
                        have hms68_1 := NB179_167.out
                        have hs70 : w66.cell? ⟨gb179, 1, none⟩ = some (.slice none 0 0) := (blk_cell BK179.out 1).trans rfl
                        have hfs70 := blk_frozen BK179.out 1
                        have hns70_0 := NB149_179.out
                        have hns70_1 := NB167_179.out
                        have hms70_0 := NB179_149.out
                        have hms70_1 := NB179_167.out
                        refine skip_ (w1 := ?_) (by rfl) rfl ?_ ?_
                        rotate_left
                        ·go_simp
                         rfl
                        refine hK.out _ _ ⟨((cell_far (p := ⟨gb179, _, none⟩) NB149_179.out _).trans (((cell_far (p := ⟨gb179, _, none⟩) NB149_179.out _).trans (hHeld.1)))), ((cell_far (p := ⟨gb179, _, none⟩) NB149_179.out _).trans (((cell_far (p := ⟨gb179, _, none⟩) NB149_179.out _).trans (hHeld.2.1)))), ((cell_far (p := ⟨gb179, _, none⟩) (by first | exact Kd.own_blk (Kd.R_ne HO_6.out BK179.out (by decide)) | (rw [add_block]; exact Kd.own_blk (Kd.R_ne HO_6.out BK179.out (by decide))) | (show (Addr.add _ _).block ≠ _; rw [add_block]; exact Kd.own_blk (Kd.R_ne HO_6.out BK179.out (by decide))) | (dsimp only; exact Kd.own_blk (Kd.R_ne HO_6.out BK179.out (by decide)))) _).trans (((cell_far (p := ⟨gb179, _, none⟩) (by first | exact Kd.own_blk (Kd.R_ne HO_6.out BK179.out (by decide)) | (rw [add_block]; exact Kd.own_blk (Kd.R_ne HO_6.out BK179.out (by decide))) | (show (Addr.add _ _).block ≠ _; rw [add_block]; exact Kd.own_blk (Kd.R_ne HO_6.out BK179.out (by decide))) | (dsimp only; exact Kd.own_blk (Kd.R_ne HO_6.out BK179.out (by decide)))) _).trans (hHeld.2.2))))⟩ (fun hHeld => ?_)
                        clear hK K
                        refine pure_ (i := 12) (N := some 14) (v := ?_) (a' := ?_) #[true, true, true, true, true, true, true, true, true, true, true, true, true] rfl rfl (any_of HT_.out (by kernel_rfl)) (fun _ _ _ h => h) (Or.inl ⟨by rfl, ?_⟩) ?_ ?_
                        rotate_left
                        ·intro w'
                         go_simp
                         with_reducible rfl
                        rotate_left
                        ·simp only [Act.put, List.setIfInBounds_toArray, List.set_cons_zero, List.set_cons_succ, i64_w, i32_w]
                         rfl
                        refine done_ (done_of HT_.out (by kernel_rfl)) ?_
                        have n0_ : Aside0 (Kd.R (Kd.int .i64) 3 ((w66.setCell ⟨gb179, 0, none⟩ (.slice Ao67 t172.length co67)).setCell ⟨gb179, 1, none⟩ (.slice Ao69 t175.length co69)) w.heap.size (fun _ => True) (.slice (some ⟨go29, 0, none⟩) y168.length co29) y168) := ⟨by (with_reducible repeat (first | apply Kd.R_alloc | apply Kd.R_drewN | apply Kd.R_drew)); exact Kd.R_mono (Kd.R_far (p := ⟨gb179, 1, none⟩) (Kd.R_far (p := ⟨gb179, 0, none⟩) (Kd.R_types HO_6.out BK179.out (by decide)) (fun _ hk => hk.2) (.slice Ao67 t172.length co67)) (fun _ hk => hk.2) (.slice Ao69 t175.length co69)) (fun _ hk => trivial)⟩
                        have n1_ : Aside0 (Kd.R Kd.bool 4 ((w66.setCell ⟨gb179, 0, none⟩ (.slice Ao67 t172.length co67)).setCell ⟨gb179, 1, none⟩ (.slice Ao69 t175.length co69)) w.heap.size (fun _ => True) v154 x7_1) := ⟨by (with_reducible repeat (first | apply Kd.R_alloc | apply Kd.R_drewN | apply Kd.R_drew)); exact Kd.R_mono (Kd.R_far (p := ⟨gb179, 1, none⟩) (Kd.R_far (p := ⟨gb179, 0, none⟩) (Kd.R_types HO_7.out BK179.out (by decide)) (fun _ hk => hk.2) (.slice Ao67 t172.length co67)) (fun _ hk => hk.2) (.slice Ao69 t175.length co69)) (fun _ hk => trivial)⟩
                        have n2_ : Aside0 (Kd.V (Kd.slice 57 k57) 29 ((w66.setCell ⟨gb179, 0, none⟩ (.slice Ao67 t172.length co67)).setCell ⟨gb179, 1, none⟩ (.slice Ao69 t175.length co69)) w.heap.size (fun k_ => some k_ ≠ (.slice (some ⟨go29, 0, none⟩) y168.length co29 : Value).ownBlock ∧ some k_ ≠ (v154 : Value).ownBlock ∧ k_ ≠ gb149 ∧ k_ ≠ gb167 ∧ k_ ≠ gb179) (.slice Ao36 t159.length co36) t159) := ⟨by (with_reducible repeat (first | apply Kd.V_alloc | apply Kd.V_drewN | apply Kd.V_drew)); exact Kd.V_mono (Kd.V_far (p := ⟨gb179, 1, none⟩) (Kd.V_far (p := ⟨gb179, 0, none⟩) (Kd.V_mono HO_150000.out (fun k_ hk => (⟨hk, hk.2.2.2.2⟩ : _ ∧ k_ ≠ gb179))) (fun _ hk => hk.2) (.slice Ao67 t172.length co67)) (fun _ hk => hk.2) (.slice Ao69 t175.length co69)) (fun _ hk => ⟨hk.1.1, ⟨hk.1.2.1, ⟨hk.1.2.2.1, ⟨hk.1.2.2.2.1, hk.1.2.2.2.2⟩⟩⟩⟩)⟩
                        have n3_ : Aside0 (Kd.V (Kd.int .i64) 3 ((w66.setCell ⟨gb179, 0, none⟩ (.slice Ao67 t172.length co67)).setCell ⟨gb179, 1, none⟩ (.slice Ao69 t175.length co69)) w.heap.size (fun k_ => some k_ ≠ (.slice (some ⟨go29, 0, none⟩) y168.length co29 : Value).ownBlock ∧ some k_ ≠ (v154 : Value).ownBlock ∧ k_ ≠ gb149 ∧ k_ ≠ gb167 ∧ k_ ≠ gb179) (.slice Ao39 t162.length co39) t162) := ⟨by (with_reducible repeat (first | apply Kd.V_alloc | apply Kd.V_drewN | apply Kd.V_drew)); exact Kd.V_mono (Kd.V_far (p := ⟨gb179, 1, none⟩) (Kd.V_far (p := ⟨gb179, 0, none⟩) (Kd.V_mono HO_150001.out (fun k_ hk => (⟨hk, hk.2.2.2.2⟩ : _ ∧ k_ ≠ gb179))) (fun _ hk => hk.2) (.slice Ao67 t172.length co67)) (fun _ hk => hk.2) (.slice Ao69 t175.length co69)) (fun _ hk => ⟨hk.1.1, ⟨hk.1.2.1, ⟨hk.1.2.2.1, ⟨hk.1.2.2.2.1, hk.1.2.2.2.2⟩⟩⟩⟩)⟩
                        have n4_ : Aside0 (Kd.V (Kd.slice 57 k57) 29 ((w66.setCell ⟨gb179, 0, none⟩ (.slice Ao67 t172.length co67)).setCell ⟨gb179, 1, none⟩ (.slice Ao69 t175.length co69)) w.heap.size (fun k_ => some k_ ≠ (.slice (some ⟨go29, 0, none⟩) y168.length co29 : Value).ownBlock ∧ some k_ ≠ (v154 : Value).ownBlock ∧ k_ ≠ gb149 ∧ k_ ≠ gb167 ∧ k_ ≠ gb179) (.slice Ao36 t159.length co36) t159) := ⟨by (with_reducible repeat (first | apply Kd.V_alloc | apply Kd.V_drewN | apply Kd.V_drew)); exact Kd.V_mono (Kd.V_far (p := ⟨gb179, 1, none⟩) (Kd.V_far (p := ⟨gb179, 0, none⟩) (Kd.V_mono HO_168000.out (fun k_ hk => (⟨hk, hk.2.2.2.2⟩ : _ ∧ k_ ≠ gb179))) (fun _ hk => hk.2) (.slice Ao67 t172.length co67)) (fun _ hk => hk.2) (.slice Ao69 t175.length co69)) (fun _ hk => ⟨hk.1.1, ⟨hk.1.2.1, ⟨hk.1.2.2.1, ⟨hk.1.2.2.2.1, hk.1.2.2.2.2⟩⟩⟩⟩)⟩
                        have n5_ : Aside0 (Kd.V (Kd.int .i64) 3 ((w66.setCell ⟨gb179, 0, none⟩ (.slice Ao67 t172.length co67)).setCell ⟨gb179, 1, none⟩ (.slice Ao69 t175.length co69)) w.heap.size (fun k_ => some k_ ≠ (.slice (some ⟨go29, 0, none⟩) y168.length co29 : Value).ownBlock ∧ some k_ ≠ (v154 : Value).ownBlock ∧ k_ ≠ gb149 ∧ k_ ≠ gb167 ∧ k_ ≠ gb179) (.slice Ao39 t162.length co39) t162) := ⟨by (with_reducible repeat (first | apply Kd.V_alloc | apply Kd.V_drewN | apply Kd.V_drew)); exact Kd.V_mono (Kd.V_far (p := ⟨gb179, 1, none⟩) (Kd.V_far (p := ⟨gb179, 0, none⟩) (Kd.V_mono HO_168001.out (fun k_ hk => (⟨hk, hk.2.2.2.2⟩ : _ ∧ k_ ≠ gb179))) (fun _ hk => hk.2) (.slice Ao67 t172.length co67)) (fun _ hk => hk.2) (.slice Ao69 t175.length co69)) (fun _ hk => ⟨hk.1.1, ⟨hk.1.2.1, ⟨hk.1.2.2.1, ⟨hk.1.2.2.2.1, hk.1.2.2.2.2⟩⟩⟩⟩)⟩
                        have n6_ : Aside0 (Kd.V (Kd.slice 57 k57) 29 ((w66.setCell ⟨gb179, 0, none⟩ (.slice Ao67 t172.length co67)).setCell ⟨gb179, 1, none⟩ (.slice Ao69 t175.length co69)) w.heap.size (fun k_ => some k_ ≠ (.slice (some ⟨go29, 0, none⟩) y168.length co29 : Value).ownBlock ∧ some k_ ≠ (v154 : Value).ownBlock ∧ k_ ≠ gb149 ∧ k_ ≠ gb167 ∧ k_ ≠ gb179) (.slice Ao67 t172.length co67) t172) := ⟨by (with_reducible repeat (first | apply Kd.V_alloc | apply Kd.V_drewN | apply Kd.V_drew)); exact Kd.V_mono (Kd.V_far (p := ⟨gb179, 1, none⟩) (Kd.V_far (p := ⟨gb179, 0, none⟩) (Kd.V_mono HO174.out (fun k_ hk => (⟨hk, hk.2.2.2.2⟩ : _ ∧ k_ ≠ gb179))) (fun _ hk => hk.2) (.slice Ao67 t172.length co67)) (fun _ hk => hk.2) (.slice Ao69 t175.length co69)) (fun _ hk => ⟨hk.1.1, ⟨hk.1.2.1, ⟨hk.1.2.2.1, ⟨hk.1.2.2.2.1, hk.1.2.2.2.2⟩⟩⟩⟩)⟩
                        have n7_ : Aside0 (Kd.V (Kd.int .i64) 3 ((w66.setCell ⟨gb179, 0, none⟩ (.slice Ao67 t172.length co67)).setCell ⟨gb179, 1, none⟩ (.slice Ao69 t175.length co69)) w.heap.size (fun k_ => some k_ ≠ (.slice (some ⟨go29, 0, none⟩) y168.length co29 : Value).ownBlock ∧ some k_ ≠ (v154 : Value).ownBlock ∧ k_ ≠ gb149 ∧ k_ ≠ gb167 ∧ k_ ≠ gb179) (.slice Ao69 t175.length co69) t175) := ⟨by (with_reducible repeat (first | apply Kd.V_alloc | apply Kd.V_drewN | apply Kd.V_drew)); exact Kd.V_mono (Kd.V_far (p := ⟨gb179, 1, none⟩) (Kd.V_far (p := ⟨gb179, 0, none⟩) (Kd.V_mono HO177.out (fun k_ hk => (⟨hk, hk.2.2.2.2⟩ : _ ∧ k_ ≠ gb179))) (fun _ hk => hk.2) (.slice Ao67 t172.length co67)) (fun _ hk => hk.2) (.slice Ao69 t175.length co69)) (fun _ hk => ⟨hk.1.1, ⟨hk.1.2.1, ⟨hk.1.2.2.1, ⟨hk.1.2.2.2.1, hk.1.2.2.2.2⟩⟩⟩⟩)⟩
                        have n8_ : Aside0 (((w66.setCell ⟨gb179, 0, none⟩ (.slice Ao67 t172.length co67)).setCell ⟨gb179, 1, none⟩ (.slice Ao69 t175.length co69)).heap[gb149]? = some (.cells #[.slice Ao36 t159.length co36, .slice Ao39 t162.length co39] 27 (0, 0))) := ⟨by (with_reducible repeat (first | refine blk_drewN ?_ _ | refine blk_drew ?_ | refine blk_alloc ?_ _)); refine blk_far ?_ NB149_179.out _; (with_reducible repeat (first | refine blk_drewN ?_ _ | refine blk_drew ?_ | refine blk_alloc ?_ _)); refine blk_far ?_ NB149_179.out _; (with_reducible repeat (first | refine blk_drewN ?_ _ | refine blk_drew ?_ | refine blk_alloc ?_ _)); exact BK149.out⟩
                        have n9_ : Aside0 (((w66.setCell ⟨gb179, 0, none⟩ (.slice Ao67 t172.length co67)).setCell ⟨gb179, 1, none⟩ (.slice Ao69 t175.length co69)).heap[gb167]? = some (.cells #[.slice Ao36 t159.length co36, .slice Ao39 t162.length co39] 27 (0, 0))) := ⟨by (with_reducible repeat (first | refine blk_drewN ?_ _ | refine blk_drew ?_ | refine blk_alloc ?_ _)); refine blk_far ?_ NB167_179.out _; (with_reducible repeat (first | refine blk_drewN ?_ _ | refine blk_drew ?_ | refine blk_alloc ?_ _)); refine blk_far ?_ NB167_179.out _; (with_reducible repeat (first | refine blk_drewN ?_ _ | refine blk_drew ?_ | refine blk_alloc ?_ _)); exact BK167.out⟩
                        have n10_ : Aside0 (((w66.setCell ⟨gb179, 0, none⟩ (.slice Ao67 t172.length co67)).setCell ⟨gb179, 1, none⟩ (.slice Ao69 t175.length co69)).heap[gb179]? = some (.cells #[.slice Ao67 t172.length co67, .slice Ao69 t175.length co69] 27 (0, 0))) := ⟨by (with_reducible repeat (first | refine blk_drewN ?_ _ | refine blk_drew ?_ | refine blk_alloc ?_ _)); refine blk_put (cs := #[.slice Ao67 t172.length co67, .slice none 0 0]) ?_ 1 _ rfl; (with_reducible repeat (first | refine blk_drewN ?_ _ | refine blk_drew ?_ | refine blk_alloc ?_ _)); refine blk_put (cs := #[.slice none 0 0, .slice none 0 0]) ?_ 0 _ rfl; (with_reducible repeat (first | refine blk_drewN ?_ _ | refine blk_drew ?_ | refine blk_alloc ?_ _)); exact BK179.out⟩
                        have n11_ : Aside0 (Below w.heap.size w ((w66.setCell ⟨gb179, 0, none⟩ (.slice Ao67 t172.length co67)).setCell ⟨gb179, 1, none⟩ (.slice Ao69 t175.length co69))) := ⟨by repeat (first | (with_reducible first | exact HB.out | apply below_alloc | apply pw_below_drewN | apply below_drew1 | refine below_set ?_ GE149.out | refine below_set ?_ GE167.out | refine below_set ?_ GE179.out) | exact HB.out)⟩
                        (try clear HO_6)
                        (try clear HO_7)
                        (try clear HO_150000)
                        (try clear HO_150001)
                        (try clear HO_168000)
                        (try clear HO_168001)
                        (try clear HO174)
                        (try clear HO177)
                        (try clear BK149)
                        (try clear BK167)
                        (try clear BK179)
                        (try clear HB)
                        generalize ((w66.setCell ⟨gb179, 0, none⟩ (.slice Ao67 t172.length co67)).setCell ⟨gb179, 1, none⟩ (.slice Ao69 t175.length co69)) = w71 at n0_ n1_ n2_ n3_ n4_ n5_ n6_ n7_ n8_ n9_ n10_ n11_ ⊢
                        have HO_6 := n0_
                        have HO_7 := n1_
                        have HO_150000 := n2_
                        have HO_150001 := n3_
                        have HO_168000 := n4_
                        have HO_168001 := n5_
                        have HO174 := n6_
                        have HO177 := n7_
                        have BK149 := n8_
                        have BK167 := n9_
                        have BK179 := n10_
                        have HB := n11_
                        clear n0_ n1_ n2_ n3_ n4_ n5_ n6_ n7_ n8_ n9_ n10_ n11_
                        have hnb72 := NB179_149.out
                        have hnc72 := NB149_179.out
                        have hnb73 := NB179_167.out
                        have hnc73 := NB167_179.out
                        have hcz74_0 : w71.cell? ⟨gb179, 0, none⟩ = some (.slice Ao67 t172.length co67) := (blk_cell BK179.out 0).trans rfl
                        have hcz74_1 : w71.cell? ⟨gb179, 1, none⟩ = some (.slice Ao69 t175.length co69) := (blk_cell BK179.out 1).trans rfl
                        have hfz74_0 := blk_frozen BK179.out 0
                        have hfz74_1 := blk_frozen BK179.out 1
                        have hnb75 := NB149_167.out
                        have hnc75 := NB167_149.out
                        have hcz76_0 : w71.cell? ⟨gb149, 0, none⟩ = some (.slice Ao36 t159.length co36) := (blk_cell BK149.out 0).trans rfl
                        have hcz76_1 : w71.cell? ⟨gb149, 1, none⟩ = some (.slice Ao39 t162.length co39) := (blk_cell BK149.out 1).trans rfl
                        have hfz76_0 := blk_frozen BK149.out 0
                        have hfz76_1 := blk_frozen BK149.out 1
                        try go_wp2_with (first | ((with_reducible refine gate_store (t := 27) (p := 5) rfl ?_); refine store_event (t := 27) (p := 5) (v := ?vo_w77) (w1 := ((w71.setCell ⟨gb149, 0, none⟩ (.slice Ao67 t172.length co67)).setCell ⟨gb149, 1, none⟩ (.slice Ao69 t175.length co69))) ?hg ?ho ?hn ?hr ?_; (case ho => rfl); (case hg => rfl); (case hn => rfl); (case hr => first | (go_simp; done) | (go_simp; rfl)); intro w77 hw; have n0_ : Aside0 (Kd.R (Kd.int .i64) 3 w77 w.heap.size (fun _ => True) (.slice (some ⟨go29, 0, none⟩) y168.length co29) y168) := ⟨(by rw [hw]; exact (by (with_reducible repeat (first | apply Kd.R_alloc | apply Kd.R_drewN | apply Kd.R_drew)); exact Kd.R_mono (Kd.R_far (p := ⟨gb149, 1, none⟩) (Kd.R_far (p := ⟨gb149, 0, none⟩) (Kd.R_types HO_6.out BK149.out (by decide)) (fun _ hk => hk.2) (.slice Ao67 t172.length co67)) (fun _ hk => hk.2) (.slice Ao69 t175.length co69)) (fun _ hk => trivial)))⟩; have n1_ : Aside0 (Kd.R Kd.bool 4 w77 w.heap.size (fun _ => True) v154 x7_1) := ⟨(by rw [hw]; exact (by (with_reducible repeat (first | apply Kd.R_alloc | apply Kd.R_drewN | apply Kd.R_drew)); exact Kd.R_mono (Kd.R_far (p := ⟨gb149, 1, none⟩) (Kd.R_far (p := ⟨gb149, 0, none⟩) (Kd.R_types HO_7.out BK149.out (by decide)) (fun _ hk => hk.2) (.slice Ao67 t172.length co67)) (fun _ hk => hk.2) (.slice Ao69 t175.length co69)) (fun _ hk => trivial)))⟩; have n2_ : Aside0 (Kd.V (Kd.slice 57 k57) 29 w77 w.heap.size (fun k_ => some k_ ≠ (.slice (some ⟨go29, 0, none⟩) y168.length co29 : Value).ownBlock ∧ some k_ ≠ (v154 : Value).ownBlock ∧ k_ ≠ gb149 ∧ k_ ≠ gb167 ∧ k_ ≠ gb179) (.slice Ao36 t159.length co36) t159) := ⟨(by rw [hw]; exact (by (with_reducible repeat (first | apply Kd.V_alloc | apply Kd.V_drewN | apply Kd.V_drew)); exact Kd.V_mono (Kd.V_far (p := ⟨gb149, 1, none⟩) (Kd.V_far (p := ⟨gb149, 0, none⟩) (Kd.V_mono HO_150000.out (fun k_ hk => (⟨hk, hk.2.2.1⟩ : _ ∧ k_ ≠ gb149))) (fun _ hk => hk.2) (.slice Ao67 t172.length co67)) (fun _ hk => hk.2) (.slice Ao69 t175.length co69)) (fun _ hk => ⟨hk.1.1, ⟨hk.1.2.1, ⟨hk.1.2.2.1, ⟨hk.1.2.2.2.1, hk.1.2.2.2.2⟩⟩⟩⟩)))⟩; have n3_ : Aside0 (Kd.V (Kd.int .i64) 3 w77 w.heap.size (fun k_ => some k_ ≠ (.slice (some ⟨go29, 0, none⟩) y168.length co29 : Value).ownBlock ∧ some k_ ≠ (v154 : Value).ownBlock ∧ k_ ≠ gb149 ∧ k_ ≠ gb167 ∧ k_ ≠ gb179) (.slice Ao39 t162.length co39) t162) := ⟨(by rw [hw]; exact (by (with_reducible repeat (first | apply Kd.V_alloc | apply Kd.V_drewN | apply Kd.V_drew)); exact Kd.V_mono (Kd.V_far (p := ⟨gb149, 1, none⟩) (Kd.V_far (p := ⟨gb149, 0, none⟩) (Kd.V_mono HO_150001.out (fun k_ hk => (⟨hk, hk.2.2.1⟩ : _ ∧ k_ ≠ gb149))) (fun _ hk => hk.2) (.slice Ao67 t172.length co67)) (fun _ hk => hk.2) (.slice Ao69 t175.length co69)) (fun _ hk => ⟨hk.1.1, ⟨hk.1.2.1, ⟨hk.1.2.2.1, ⟨hk.1.2.2.2.1, hk.1.2.2.2.2⟩⟩⟩⟩)))⟩; have n4_ : Aside0 (Kd.V (Kd.slice 57 k57) 29 w77 w.heap.size (fun k_ => some k_ ≠ (.slice (some ⟨go29, 0, none⟩) y168.length co29 : Value).ownBlock ∧ some k_ ≠ (v154 : Value).ownBlock ∧ k_ ≠ gb149 ∧ k_ ≠ gb167 ∧ k_ ≠ gb179) (.slice Ao36 t159.length co36) t159) := ⟨(by rw [hw]; exact (by (with_reducible repeat (first | apply Kd.V_alloc | apply Kd.V_drewN | apply Kd.V_drew)); exact Kd.V_mono (Kd.V_far (p := ⟨gb149, 1, none⟩) (Kd.V_far (p := ⟨gb149, 0, none⟩) (Kd.V_mono HO_168000.out (fun k_ hk => (⟨hk, hk.2.2.1⟩ : _ ∧ k_ ≠ gb149))) (fun _ hk => hk.2) (.slice Ao67 t172.length co67)) (fun _ hk => hk.2) (.slice Ao69 t175.length co69)) (fun _ hk => ⟨hk.1.1, ⟨hk.1.2.1, ⟨hk.1.2.2.1, ⟨hk.1.2.2.2.1, hk.1.2.2.2.2⟩⟩⟩⟩)))⟩; have n5_ : Aside0 (Kd.V (Kd.int .i64) 3 w77 w.heap.size (fun k_ => some k_ ≠ (.slice (some ⟨go29, 0, none⟩) y168.length co29 : Value).ownBlock ∧ some k_ ≠ (v154 : Value).ownBlock ∧ k_ ≠ gb149 ∧ k_ ≠ gb167 ∧ k_ ≠ gb179) (.slice Ao39 t162.length co39) t162) := ⟨(by rw [hw]; exact (by (with_reducible repeat (first | apply Kd.V_alloc | apply Kd.V_drewN | apply Kd.V_drew)); exact Kd.V_mono (Kd.V_far (p := ⟨gb149, 1, none⟩) (Kd.V_far (p := ⟨gb149, 0, none⟩) (Kd.V_mono HO_168001.out (fun k_ hk => (⟨hk, hk.2.2.1⟩ : _ ∧ k_ ≠ gb149))) (fun _ hk => hk.2) (.slice Ao67 t172.length co67)) (fun _ hk => hk.2) (.slice Ao69 t175.length co69)) (fun _ hk => ⟨hk.1.1, ⟨hk.1.2.1, ⟨hk.1.2.2.1, ⟨hk.1.2.2.2.1, hk.1.2.2.2.2⟩⟩⟩⟩)))⟩; have n6_ : Aside0 (Kd.V (Kd.slice 57 k57) 29 w77 w.heap.size (fun k_ => some k_ ≠ (.slice (some ⟨go29, 0, none⟩) y168.length co29 : Value).ownBlock ∧ some k_ ≠ (v154 : Value).ownBlock ∧ k_ ≠ gb149 ∧ k_ ≠ gb167 ∧ k_ ≠ gb179) (.slice Ao67 t172.length co67) t172) := ⟨(by rw [hw]; exact (by (with_reducible repeat (first | apply Kd.V_alloc | apply Kd.V_drewN | apply Kd.V_drew)); exact Kd.V_mono (Kd.V_far (p := ⟨gb149, 1, none⟩) (Kd.V_far (p := ⟨gb149, 0, none⟩) (Kd.V_mono HO174.out (fun k_ hk => (⟨hk, hk.2.2.1⟩ : _ ∧ k_ ≠ gb149))) (fun _ hk => hk.2) (.slice Ao67 t172.length co67)) (fun _ hk => hk.2) (.slice Ao69 t175.length co69)) (fun _ hk => ⟨hk.1.1, ⟨hk.1.2.1, ⟨hk.1.2.2.1, ⟨hk.1.2.2.2.1, hk.1.2.2.2.2⟩⟩⟩⟩)))⟩; have n7_ : Aside0 (Kd.V (Kd.int .i64) 3 w77 w.heap.size (fun k_ => some k_ ≠ (.slice (some ⟨go29, 0, none⟩) y168.length co29 : Value).ownBlock ∧ some k_ ≠ (v154 : Value).ownBlock ∧ k_ ≠ gb149 ∧ k_ ≠ gb167 ∧ k_ ≠ gb179) (.slice Ao69 t175.length co69) t175) := ⟨(by rw [hw]; exact (by (with_reducible repeat (first | apply Kd.V_alloc | apply Kd.V_drewN | apply Kd.V_drew)); exact Kd.V_mono (Kd.V_far (p := ⟨gb149, 1, none⟩) (Kd.V_far (p := ⟨gb149, 0, none⟩) (Kd.V_mono HO177.out (fun k_ hk => (⟨hk, hk.2.2.1⟩ : _ ∧ k_ ≠ gb149))) (fun _ hk => hk.2) (.slice Ao67 t172.length co67)) (fun _ hk => hk.2) (.slice Ao69 t175.length co69)) (fun _ hk => ⟨hk.1.1, ⟨hk.1.2.1, ⟨hk.1.2.2.1, ⟨hk.1.2.2.2.1, hk.1.2.2.2.2⟩⟩⟩⟩)))⟩; have n8_ : Aside0 (w77.heap[gb149]? = some (.cells #[.slice Ao67 t172.length co67, .slice Ao69 t175.length co69] 27 (0, 0))) := ⟨(by rw [hw]; exact (by (with_reducible repeat (first | refine blk_drewN ?_ _ | refine blk_drew ?_ | refine blk_alloc ?_ _)); refine blk_put (cs := #[.slice Ao67 t172.length co67, .slice Ao39 t162.length co39]) ?_ 1 _ rfl; (with_reducible repeat (first | refine blk_drewN ?_ _ | refine blk_drew ?_ | refine blk_alloc ?_ _)); refine blk_put (cs := #[.slice Ao36 t159.length co36, .slice Ao39 t162.length co39]) ?_ 0 _ rfl; (with_reducible repeat (first | refine blk_drewN ?_ _ | refine blk_drew ?_ | refine blk_alloc ?_ _)); exact BK149.out))⟩; have n9_ : Aside0 (w77.heap[gb167]? = some (.cells #[.slice Ao36 t159.length co36, .slice Ao39 t162.length co39] 27 (0, 0))) := ⟨(by rw [hw]; exact (by (with_reducible repeat (first | refine blk_drewN ?_ _ | refine blk_drew ?_ | refine blk_alloc ?_ _)); refine blk_far ?_ NB167_149.out _; (with_reducible repeat (first | refine blk_drewN ?_ _ | refine blk_drew ?_ | refine blk_alloc ?_ _)); refine blk_far ?_ NB167_149.out _; (with_reducible repeat (first | refine blk_drewN ?_ _ | refine blk_drew ?_ | refine blk_alloc ?_ _)); exact BK167.out))⟩; have n10_ : Aside0 (w77.heap[gb179]? = some (.cells #[.slice Ao67 t172.length co67, .slice Ao69 t175.length co69] 27 (0, 0))) := ⟨(by rw [hw]; exact (by (with_reducible repeat (first | refine blk_drewN ?_ _ | refine blk_drew ?_ | refine blk_alloc ?_ _)); refine blk_far ?_ NB179_149.out _; (with_reducible repeat (first | refine blk_drewN ?_ _ | refine blk_drew ?_ | refine blk_alloc ?_ _)); refine blk_far ?_ NB179_149.out _; (with_reducible repeat (first | refine blk_drewN ?_ _ | refine blk_drew ?_ | refine blk_alloc ?_ _)); exact BK179.out))⟩; have n11_ : Aside0 (Below w.heap.size w w77) := ⟨(by rw [hw]; exact (by repeat (first | (with_reducible first | exact HB.out | apply below_alloc | apply pw_below_drewN | apply below_drew1 | refine below_set ?_ GE149.out | refine below_set ?_ GE167.out | refine below_set ?_ GE179.out) | exact HB.out)))⟩; clear hw; clear HO_6; clear HO_7; clear HO_150000; clear HO_150001; clear HO_168000; clear HO_168001; clear HO174; clear HO177; clear BK149; clear BK167; clear BK179; clear HB; have HO_6 := n0_; have HO_7 := n1_; have HO_150000 := n2_; have HO_150001 := n3_; have HO_168000 := n4_; have HO_168001 := n5_; have HO174 := n6_; have HO177 := n7_; have BK149 := n8_; have BK167 := n9_; have BK179 := n10_; have HB := n11_; clear n0_ n1_ n2_ n3_ n4_ n5_ n6_ n7_ n8_ n9_ n10_ n11_; have p59 : 0 ≤ ((ji54) : Int) := of_decide_eq_true (by first | (with_reducible assumption) | assumption); have q59 : ((ji54) : Int) < ((x7_1.length : Int) : Int) := of_decide_eq_true (by first | (with_reducible assumption) | assumption); obtain ⟨go59, co59, eo59, gb59, gl59, cl59, HG59⟩ := Kd.R_form HO_7.out (by omega); (first | cases eo59 | (injection eo59 with ea_ en_ ec_; (first | subst ea_ | (injection ea_ with ea_; subst ea_)); subst ec_; clear en_)); have GB59 := Aside0.mk gb59; have GG59 := Aside0.mk HG59; clear gb59 gl59 HG59; obtain ⟨hx59_0, hf59_0⟩ := Kd.R_celln false HO_7.out ((ji54) : Int) p59 q59; replace p59 := eq_true p59; replace q59 := eq_true q59; obtain ⟨hy78_, hz78_⟩ := Kd.R_celln false HO_7.out ((ji54) : Int) (of_decide_eq_true (by first | (with_reducible assumption) | assumption)) (of_decide_eq_true (by first | (with_reducible assumption) | assumption)); have HP78 := Kd.R_putg HO_7.out ((ji54) : Int) true) | ((with_reducible refine gate_store (t := 4) (p := 90) rfl ?_); refine store_event (t := 4) (p := 90) (v := ?vo_w79) (w1 := (w77.setCell ⟨go59, ((ji54) : Int).toNat, none⟩ (.bool true))) ?hg ?ho ?hn ?hr ?_; (case ho => rfl); (case hg => rfl); (case hn => rfl); (case hr => first | (go_simp; done) | (go_simp; rfl)); intro w79 hw; have hg : w77.grownBy w79 (some go59) := (by rw [hw]; exact HP78.2); have hp_ : Kd.R Kd.bool 4 w79 w.heap.size (fun _ => True) (.slice (some ⟨go59, 0, none⟩) x7_1.length co59) y180 := (by rw [hw, Ny180.out]; exact HP78.1); clear HP78; have n0_ := Aside0.mk (Kd.R_over' (v := (.slice (some ⟨go59, 0, none⟩) x7_1.length co59)) (by (with_reducible repeat (first | apply Kd.R_alloc | apply Kd.R_drewN | apply Kd.R_drew)); exact HO_6.out) (Kd.R_typed HO_7.out) (by decide) hg); have n1_ := Aside0.mk (hp_); have n2_ := Aside0.mk (Kd.V_afterv (v := (.slice (some ⟨go59, 0, none⟩) x7_1.length co59)) (v1 := (.slice (some ⟨go59, 0, none⟩) x7_1.length co59)) (ok := (fun k_ => some k_ ≠ (.slice (some ⟨go29, 0, none⟩) y168.length co29 : Value).ownBlock ∧ k_ ≠ gb149 ∧ k_ ≠ gb167 ∧ k_ ≠ gb179)) (by (with_reducible repeat (first | apply Kd.V_alloc | apply Kd.V_drewN | apply Kd.V_drew)); exact Kd.V_mono HO_150000.out (fun _ hk => ⟨⟨hk.1, ⟨hk.2.2.1, ⟨hk.2.2.2.1, hk.2.2.2.2⟩⟩⟩, hk.2.1⟩)) hg (.inl rfl)); have n3_ := Aside0.mk (Kd.V_afterv (v := (.slice (some ⟨go59, 0, none⟩) x7_1.length co59)) (v1 := (.slice (some ⟨go59, 0, none⟩) x7_1.length co59)) (ok := (fun k_ => some k_ ≠ (.slice (some ⟨go29, 0, none⟩) y168.length co29 : Value).ownBlock ∧ k_ ≠ gb149 ∧ k_ ≠ gb167 ∧ k_ ≠ gb179)) (by (with_reducible repeat (first | apply Kd.V_alloc | apply Kd.V_drewN | apply Kd.V_drew)); exact Kd.V_mono HO_150001.out (fun _ hk => ⟨⟨hk.1, ⟨hk.2.2.1, ⟨hk.2.2.2.1, hk.2.2.2.2⟩⟩⟩, hk.2.1⟩)) hg (.inl rfl)); have n4_ := Aside0.mk (Kd.V_afterv (v := (.slice (some ⟨go59, 0, none⟩) x7_1.length co59)) (v1 := (.slice (some ⟨go59, 0, none⟩) x7_1.length co59)) (ok := (fun k_ => some k_ ≠ (.slice (some ⟨go29, 0, none⟩) y168.length co29 : Value).ownBlock ∧ k_ ≠ gb149 ∧ k_ ≠ gb167 ∧ k_ ≠ gb179)) (by (with_reducible repeat (first | apply Kd.V_alloc | apply Kd.V_drewN | apply Kd.V_drew)); exact Kd.V_mono HO_168000.out (fun _ hk => ⟨⟨hk.1, ⟨hk.2.2.1, ⟨hk.2.2.2.1, hk.2.2.2.2⟩⟩⟩, hk.2.1⟩)) hg (.inl rfl)); have n5_ := Aside0.mk (Kd.V_afterv (v := (.slice (some ⟨go59, 0, none⟩) x7_1.length co59)) (v1 := (.slice (some ⟨go59, 0, none⟩) x7_1.length co59)) (ok := (fun k_ => some k_ ≠ (.slice (some ⟨go29, 0, none⟩) y168.length co29 : Value).ownBlock ∧ k_ ≠ gb149 ∧ k_ ≠ gb167 ∧ k_ ≠ gb179)) (by (with_reducible repeat (first | apply Kd.V_alloc | apply Kd.V_drewN | apply Kd.V_drew)); exact Kd.V_mono HO_168001.out (fun _ hk => ⟨⟨hk.1, ⟨hk.2.2.1, ⟨hk.2.2.2.1, hk.2.2.2.2⟩⟩⟩, hk.2.1⟩)) hg (.inl rfl)); have n6_ := Aside0.mk (blk_grown (g := gb149) (o := .cells #[.slice Ao67 t172.length co67, .slice Ao69 t175.length co69] 27 (0, 0)) (by (with_reducible repeat (first | refine blk_drewN ?_ _ | refine blk_drew ?_ | refine blk_alloc ?_ _)); exact BK149.out) hg (Kd.R_ne HO_7.out BK149.out (by decide))); have n7_ := Aside0.mk (blk_grown (g := gb167) (o := .cells #[.slice Ao36 t159.length co36, .slice Ao39 t162.length co39] 27 (0, 0)) (by (with_reducible repeat (first | refine blk_drewN ?_ _ | refine blk_drew ?_ | refine blk_alloc ?_ _)); exact BK167.out) hg (Kd.R_ne HO_7.out BK167.out (by decide))); have n8_ := Aside0.mk (Kd.V_afterv (v := (.slice (some ⟨go59, 0, none⟩) x7_1.length co59)) (v1 := (.slice (some ⟨go59, 0, none⟩) x7_1.length co59)) (ok := (fun k_ => some k_ ≠ (.slice (some ⟨go29, 0, none⟩) y168.length co29 : Value).ownBlock ∧ k_ ≠ gb149 ∧ k_ ≠ gb167 ∧ k_ ≠ gb179)) (by (with_reducible repeat (first | apply Kd.V_alloc | apply Kd.V_drewN | apply Kd.V_drew)); exact Kd.V_mono HO174.out (fun _ hk => ⟨⟨hk.1, ⟨hk.2.2.1, ⟨hk.2.2.2.1, hk.2.2.2.2⟩⟩⟩, hk.2.1⟩)) hg (.inl rfl)); have n9_ := Aside0.mk (Kd.V_afterv (v := (.slice (some ⟨go59, 0, none⟩) x7_1.length co59)) (v1 := (.slice (some ⟨go59, 0, none⟩) x7_1.length co59)) (ok := (fun k_ => some k_ ≠ (.slice (some ⟨go29, 0, none⟩) y168.length co29 : Value).ownBlock ∧ k_ ≠ gb149 ∧ k_ ≠ gb167 ∧ k_ ≠ gb179)) (by (with_reducible repeat (first | apply Kd.V_alloc | apply Kd.V_drewN | apply Kd.V_drew)); exact Kd.V_mono HO177.out (fun _ hk => ⟨⟨hk.1, ⟨hk.2.2.1, ⟨hk.2.2.2.1, hk.2.2.2.2⟩⟩⟩, hk.2.1⟩)) hg (.inl rfl)); have n10_ := Aside0.mk (blk_grown (g := gb179) (o := .cells #[.slice Ao67 t172.length co67, .slice Ao69 t175.length co69] 27 (0, 0)) (by (with_reducible repeat (first | refine blk_drewN ?_ _ | refine blk_drew ?_ | refine blk_alloc ?_ _)); exact BK179.out) hg (Kd.R_ne HO_7.out BK179.out (by decide))); have n11_ := Aside0.mk ((by rw [hw]; exact below_set (HB.out) GB59.out : Below w.heap.size w w79)); clear HO_6; clear HO_7; clear HO_150000; clear HO_150001; clear HO_168000; clear HO_168001; clear BK149; clear BK167; clear HO174; clear HO177; clear BK179; clear HB; have HO_6 := n0_; have HO_7 := n1_; have HO_150000 := n2_; have HO_150001 := n3_; have HO_168000 := n4_; have HO_168001 := n5_; have BK149 := n6_; have BK167 := n7_; have HO174 := n8_; have HO177 := n9_; have BK179 := n10_; have HB := n11_; clear n0_ n1_ n2_ n3_ n4_ n5_ n6_ n7_ n8_ n9_ n10_ n11_; clear hg hw hp_; have hcz80_0 : w79.cell? ⟨gb149, 0, none⟩ = some (.slice Ao67 t172.length co67) := (blk_cell BK149.out 0).trans rfl; have hcz80_1 : w79.cell? ⟨gb149, 1, none⟩ = some (.slice Ao69 t175.length co69) := (blk_cell BK149.out 1).trans rfl; have hfz80_0 := blk_frozen BK149.out 0; have hfz80_1 := blk_frozen BK149.out 1) | ((with_reducible refine gate_callee (f := 10) rfl ?_); refine goesL_ (some 98) rfl rfl Try.func10 (by kernel_rfl) rfl #[.agg #[.slice Ao67 t172.length co67, .slice Ao69 t175.length co69], .slice (some ⟨go29, 0, none⟩) y168.length co29, .slice (some ⟨go59, 0, none⟩) y180.length co59, .slice (some ad156) l0.length c0, .int .i64 x30_1] rfl (by (try simp only [List.map_toArray, List.map_cons, List.map_nil]); first | done | (rw [show y180.length = x7_1.length from (Kd.R_reads' HO_7.out).1.symm] <;> rfl) | rfl | (simp only [List.length_drop, List.length_take]; rfl)) ?_; (with_reducible refine (curtilagelaw05_same.calls kj29 _ _ t172 _ _ t175 _ _ y168 _ _ y180 _ _ l0 x30_1 true _ ?side1 ?side2 ?side3 ?side4 ?side5 ?side6 ?side7 ?side8 ?side9 ?side10 A61.out).mono ?_); (case side1 => repeat (first | exact (Kd.V_reads' HO174.out).2.2 | (with_reducible refine Kd.C_alloc ?_ _) | (with_reducible refine Kd.C_drewN ?_ _) | (with_reducible refine Kd.C_drew ?_))); (case side2 => exact (Kd.V_reads' HO174.out).2.1); (case side3 => repeat (first | exact (Kd.V_reads' HO177.out).2.2 | (with_reducible refine Kd.C_alloc ?_ _) | (with_reducible refine Kd.C_drewN ?_ _) | (with_reducible refine Kd.C_drew ?_))); (case side4 => exact (Kd.V_reads' HO177.out).2.1); (case side5 => repeat (first | exact (Kd.R_reads' HO_6.out).2.2 | (with_reducible refine Kd.C_alloc ?_ _) | (with_reducible refine Kd.C_drewN ?_ _) | (with_reducible refine Kd.C_drew ?_))); (case side6 => exact (Kd.R_reads' HO_6.out).2.1); (case side7 => repeat (first | exact (Kd.R_reads' HO_7.out).2.2 | (with_reducible refine Kd.C_alloc ?_ _) | (with_reducible refine Kd.C_drewN ?_ _) | (with_reducible refine Kd.C_drew ?_))); (case side8 => rw [show y180.length = x7_1.length from (Kd.R_reads' HO_7.out).1.symm]; exact (Kd.R_reads' HO_7.out).2.1); (case side9 => repeat (first | exact (Kd.C_below HR0.out HB.out) | (with_reducible refine Kd.C_alloc ?_ _) | (with_reducible refine Kd.C_drewN ?_ _) | (with_reducible refine Kd.C_drew ?_))); (case side10 => exact HC0.out); rintro e w81 ⟨rfl, hb⟩; refine ⟨_, rfl, ?_⟩; have n0_ := Aside0.mk (Kd.R_below (by (with_reducible repeat (first | apply Kd.R_alloc | apply Kd.R_drewN | apply Kd.R_drew)); exact HO_6.out) hb); have n1_ := Aside0.mk (Kd.R_below (by (with_reducible repeat (first | apply Kd.R_alloc | apply Kd.R_drewN | apply Kd.R_drew)); exact HO_7.out) hb); have n2_ := Aside0.mk (Kd.V_below (by (with_reducible repeat (first | apply Kd.V_alloc | apply Kd.V_drewN | apply Kd.V_drew)); exact HO_150000.out) hb); have n3_ := Aside0.mk (Kd.V_below (by (with_reducible repeat (first | apply Kd.V_alloc | apply Kd.V_drewN | apply Kd.V_drew)); exact HO_150001.out) hb); have n4_ := Aside0.mk (Kd.V_below (by (with_reducible repeat (first | apply Kd.V_alloc | apply Kd.V_drewN | apply Kd.V_drew)); exact HO_168000.out) hb); have n5_ := Aside0.mk (Kd.V_below (by (with_reducible repeat (first | apply Kd.V_alloc | apply Kd.V_drewN | apply Kd.V_drew)); exact HO_168001.out) hb); have n6_ := Aside0.mk (Kd.V_below (by (with_reducible repeat (first | apply Kd.V_alloc | apply Kd.V_drewN | apply Kd.V_drew)); exact HO174.out) hb); have n7_ := Aside0.mk (Kd.V_below (by (with_reducible repeat (first | apply Kd.V_alloc | apply Kd.V_drewN | apply Kd.V_drew)); exact HO177.out) hb); have n8_ := Aside0.mk (blk_below (g := gb149) (o := .cells #[.slice Ao67 t172.length co67, .slice Ao69 t175.length co69] 27 (0, 0)) (by (with_reducible repeat (first | refine blk_drewN ?_ _ | refine blk_drew ?_ | refine blk_alloc ?_ _)); exact BK149.out) hb); have n9_ := Aside0.mk (blk_below (g := gb167) (o := .cells #[.slice Ao36 t159.length co36, .slice Ao39 t162.length co39] 27 (0, 0)) (by (with_reducible repeat (first | refine blk_drewN ?_ _ | refine blk_drew ?_ | refine blk_alloc ?_ _)); exact BK167.out) hb); have n10_ := Aside0.mk (blk_below (g := gb179) (o := .cells #[.slice Ao67 t172.length co67, .slice Ao69 t175.length co69] 27 (0, 0)) (by (with_reducible repeat (first | refine blk_drewN ?_ _ | refine blk_drew ?_ | refine blk_alloc ?_ _)); exact BK179.out) hb); have n11_ := Aside0.mk (below_step (by repeat (first | (with_reducible first | exact HB.out | apply below_alloc | apply pw_below_drewN | apply below_drew1 | refine below_set ?_ GE149.out | refine below_set ?_ GE167.out | refine below_set ?_ GE179.out) | exact HB.out)) hb); clear HO_6; clear HO_7; clear HO_150000; clear HO_150001; clear HO_168000; clear HO_168001; clear HO174; clear HO177; clear BK149; clear BK167; clear BK179; clear HB; have HO_6 := n0_; have HO_7 := n1_; have HO_150000 := n2_; have HO_150001 := n3_; have HO_168000 := n4_; have HO_168001 := n5_; have HO174 := n6_; have HO177 := n7_; have BK149 := n8_; have BK167 := n9_; have BK179 := n10_; have HB := n11_; clear n0_ n1_ n2_ n3_ n4_ n5_ n6_ n7_ n8_ n9_ n10_ n11_; (try clear hb); (try clear hb2); (try clear hk); (try clear hi)))
                        (try simp only [← hl6_29])
                        go_roundg kj29
                        case measure => have := HK1.out; have := HJ16.out; have := HJ29.out; omega
                        case rel => exact ⟨(y168), (y180), (wrap64 (x30_1 + 1)), (t172), (t175), (.slice Ao67 t172.length co67), (.slice Ao69 t175.length co69), (by first | rfl | (simp; done) | (simp [*]; done)), H', ⟨by have := HK1.out; have := HJ16.out; have := HJ29.out; omega⟩, ⟨by (try simp only [hl6_29]); (with_reducible repeat (first | apply Kd.R_alloc | apply Kd.R_drewN | apply Kd.R_drew)); exact HO_6.out⟩, ⟨by (try simp only [hl6_29]); (with_reducible repeat (first | apply Kd.R_alloc | apply Kd.R_drewN | apply Kd.R_drew)); exact HO_7.out⟩, ⟨by (try simp only [hl6_29]); (with_reducible repeat (first | apply Kd.V_alloc | apply Kd.V_drewN | apply Kd.V_drew)); exact Kd.V_mono HO174.out (fun _ hk => ⟨hk.1.1, ⟨hk.2, hk.1.2.1⟩⟩)⟩, ⟨by (try simp only [hl6_29]); (with_reducible repeat (first | apply Kd.V_alloc | apply Kd.V_drewN | apply Kd.V_drew)); exact Kd.V_mono HO177.out (fun _ hk => ⟨hk.1.1, ⟨hk.2, hk.1.2.1⟩⟩)⟩, ⟨by (try simp only [hl6_29]); (with_reducible repeat (first | refine blk_drewN ?_ _ | refine blk_drew ?_ | refine blk_alloc ?_ _)); exact BK149.out⟩, ⟨by repeat (first | (with_reducible first | exact HB.out | apply below_alloc | apply pw_below_drewN | apply below_drew1 | refine below_set ?_ GE149.out | refine below_set ?_ GE167.out | refine below_set ?_ GE179.out) | exact HB.out)⟩⟩
                       ·replace c62 := Bool.eq_false_iff.mpr c62
                        subst c62
                        have H1 : (some false) = some true := by rw [if_neg (show ¬ (false = true) by decide)] at H; exact H
                        clear H
                        have H := H1
                        clear H1
                        exact absurd H (by first | decide)
                      ·rw [if_neg c60] at H
                       have c60b0 : (t178 == 0) = false := beq_eq_false_iff_ne.mpr c60
                       have c60b1 : (t178 != 0) = true := bne_iff_ne.mpr c60
                       exact absurd H (by first | decide)
                     ·rw [if_neg c58] at H
                      exact absurd H (by simp)
                    ·rw [if_neg c56] at H
                     exact absurd H (by simp)
                   ·rw [if_neg c55] at H
                    exact absurd H (by simp)
                  ·replace c53 := Bool.eq_false_iff.mpr c53
                   subst c53
                   have H1 : ((curtilagelaw05_same.f kj29 t159 t162 y168 x7_1 l0 x30_1).bind fun t182 => (if t182 = true then (curtilagelaw05_InternOnce.l0 kj29 l0 l1 y168 x7_1 l0 (l0.length : Int) (wrap64 (x30_1 + 1)) t159 t162) else (some false))) = some true := by rw [if_neg (show ¬ (false = true) by decide)] at H; exact H
                   clear H
                   have H := H1
                   clear H1
                   replace H := Option.bind_eq_some_iff.mp H
                   obtain ⟨t182, A1180, H⟩ := H
                   replace H : (if t182 = true then (curtilagelaw05_InternOnce.l0 kj29 l0 l1 y168 x7_1 l0 (l0.length : Int) (wrap64 (x30_1 + 1)) t159 t162) else (some false)) = some true := H
                   have A118 := Aside0.mk A1180
                   clear A1180
                   by_cases c119 : t182 = true
                   ·subst c119
                    have H1 : (curtilagelaw05_InternOnce.l0 kj29 l0 l1 y168 x7_1 l0 (l0.length : Int) (wrap64 (x30_1 + 1)) t159 t162) = some true := by rw [if_pos rfl] at H; exact H
                    clear H
                    have H := H1
                    clear H1
                    have H' := Aside0.mk H
                    clear H
                    have hnb120 := NB149_167.out
                    have hnc120 := NB167_149.out
                    have hcz121_0 : wc.cell? ⟨gb149, 0, none⟩ = some (.slice Ao36 t159.length co36) := (blk_cell BK149.out 0).trans rfl
                    have hcz121_1 : wc.cell? ⟨gb149, 1, none⟩ = some (.slice Ao39 t162.length co39) := (blk_cell BK149.out 1).trans rfl
                    have hfz121_0 := blk_frozen BK149.out 0
                    have hfz121_1 := blk_frozen BK149.out 1
                    obtain ⟨Ao122, co122, eo122⟩ := Kd.R_slice HO_7.out
                    subst eo122
                    go_wp2_with (first | ((with_reducible refine gate_callee (f := 10) rfl ?_); refine goesL_ (some 98) rfl rfl Try.func10 (by kernel_rfl) rfl #[.agg #[.slice Ao36 t159.length co36, .slice Ao39 t162.length co39], .slice (some ⟨go29, 0, none⟩) y168.length co29, .slice Ao122 x7_1.length co122, .slice (some ad156) l0.length c0, .int .i64 x30_1] rfl (by (try simp only [List.map_toArray, List.map_cons, List.map_nil]); first | done | rfl | (simp only [List.length_drop, List.length_take]; rfl)) ?_; (with_reducible refine (curtilagelaw05_same.calls kj29 _ _ t159 _ _ t162 _ _ y168 _ _ x7_1 _ _ l0 x30_1 true _ ?side1 ?side2 ?side3 ?side4 ?side5 ?side6 ?side7 ?side8 ?side9 ?side10 A118.out).mono ?_); (case side1 => repeat (first | exact (Kd.V_reads' HO_150000.out).2.2 | (with_reducible refine Kd.C_alloc ?_ _) | (with_reducible refine Kd.C_drewN ?_ _) | (with_reducible refine Kd.C_drew ?_))); (case side2 => exact (Kd.V_reads' HO_150000.out).2.1); (case side3 => repeat (first | exact (Kd.V_reads' HO_150001.out).2.2 | (with_reducible refine Kd.C_alloc ?_ _) | (with_reducible refine Kd.C_drewN ?_ _) | (with_reducible refine Kd.C_drew ?_))); (case side4 => exact (Kd.V_reads' HO_150001.out).2.1); (case side5 => repeat (first | exact (Kd.R_reads' HO_6.out).2.2 | (with_reducible refine Kd.C_alloc ?_ _) | (with_reducible refine Kd.C_drewN ?_ _) | (with_reducible refine Kd.C_drew ?_))); (case side6 => exact (Kd.R_reads' HO_6.out).2.1); (case side7 => repeat (first | exact (Kd.R_reads' HO_7.out).2.2 | (with_reducible refine Kd.C_alloc ?_ _) | (with_reducible refine Kd.C_drewN ?_ _) | (with_reducible refine Kd.C_drew ?_))); (case side8 => exact (Kd.R_reads' HO_7.out).2.1); (case side9 => repeat (first | exact (Kd.C_below HR0.out HB.out) | (with_reducible refine Kd.C_alloc ?_ _) | (with_reducible refine Kd.C_drewN ?_ _) | (with_reducible refine Kd.C_drew ?_))); (case side10 => exact HC0.out); rintro e w123 ⟨rfl, hb⟩; refine ⟨_, rfl, ?_⟩; have n0_ := Aside0.mk (Kd.R_below (by (with_reducible repeat (first | apply Kd.R_alloc | apply Kd.R_drewN | apply Kd.R_drew)); exact HO_6.out) hb); have n1_ := Aside0.mk (Kd.R_below (by (with_reducible repeat (first | apply Kd.R_alloc | apply Kd.R_drewN | apply Kd.R_drew)); exact HO_7.out) hb); have n2_ := Aside0.mk (Kd.V_below (by (with_reducible repeat (first | apply Kd.V_alloc | apply Kd.V_drewN | apply Kd.V_drew)); exact HO_150000.out) hb); have n3_ := Aside0.mk (Kd.V_below (by (with_reducible repeat (first | apply Kd.V_alloc | apply Kd.V_drewN | apply Kd.V_drew)); exact HO_150001.out) hb); have n4_ := Aside0.mk (Kd.V_below (by (with_reducible repeat (first | apply Kd.V_alloc | apply Kd.V_drewN | apply Kd.V_drew)); exact HO_168000.out) hb); have n5_ := Aside0.mk (Kd.V_below (by (with_reducible repeat (first | apply Kd.V_alloc | apply Kd.V_drewN | apply Kd.V_drew)); exact HO_168001.out) hb); have n6_ := Aside0.mk (blk_below (g := gb149) (o := .cells #[.slice Ao36 t159.length co36, .slice Ao39 t162.length co39] 27 (0, 0)) (by (with_reducible repeat (first | refine blk_drewN ?_ _ | refine blk_drew ?_ | refine blk_alloc ?_ _)); exact BK149.out) hb); have n7_ := Aside0.mk (blk_below (g := gb167) (o := .cells #[.slice Ao36 t159.length co36, .slice Ao39 t162.length co39] 27 (0, 0)) (by (with_reducible repeat (first | refine blk_drewN ?_ _ | refine blk_drew ?_ | refine blk_alloc ?_ _)); exact BK167.out) hb); have n8_ := Aside0.mk (below_step (by repeat (first | (with_reducible first | exact HB.out | apply below_alloc | apply pw_below_drewN | apply below_drew1 | refine below_set ?_ GE149.out | refine below_set ?_ GE167.out) | exact HB.out)) hb); clear HO_6; clear HO_7; clear HO_150000; clear HO_150001; clear HO_168000; clear HO_168001; clear BK149; clear BK167; clear HB; have HO_6 := n0_; have HO_7 := n1_; have HO_150000 := n2_; have HO_150001 := n3_; have HO_168000 := n4_; have HO_168001 := n5_; have BK149 := n6_; have BK167 := n7_; have HB := n8_; clear n0_ n1_ n2_ n3_ n4_ n5_ n6_ n7_ n8_; (try clear hb); (try clear hb2); (try clear hk); (try clear hi)))
                    (try simp only [← hl6_29])
                    go_roundg kj29
                    case measure => have := HK1.out; have := HJ16.out; have := HJ29.out; omega
                    case rel => exact ⟨(y168), (x7_1), (wrap64 (x30_1 + 1)), (t159), (t162), (.slice Ao36 t159.length co36), (.slice Ao39 t162.length co39), (by first | rfl | (simp; done) | (simp [*]; done)), H', ⟨by have := HK1.out; have := HJ16.out; have := HJ29.out; omega⟩, ⟨by (try simp only [hl6_29]); (with_reducible repeat (first | apply Kd.R_alloc | apply Kd.R_drewN | apply Kd.R_drew)); exact HO_6.out⟩, ⟨by (try simp only [hl6_29]); (with_reducible repeat (first | apply Kd.R_alloc | apply Kd.R_drewN | apply Kd.R_drew)); exact HO_7.out⟩, ⟨by (try simp only [hl6_29]); (with_reducible repeat (first | apply Kd.V_alloc | apply Kd.V_drewN | apply Kd.V_drew)); exact Kd.V_mono HO_150000.out (fun _ hk => ⟨hk.1, ⟨hk.2.1, hk.2.2.1⟩⟩)⟩, ⟨by (try simp only [hl6_29]); (with_reducible repeat (first | apply Kd.V_alloc | apply Kd.V_drewN | apply Kd.V_drew)); exact Kd.V_mono HO_150001.out (fun _ hk => ⟨hk.1, ⟨hk.2.1, hk.2.2.1⟩⟩)⟩, ⟨by (try simp only [hl6_29]); (with_reducible repeat (first | refine blk_drewN ?_ _ | refine blk_drew ?_ | refine blk_alloc ?_ _)); exact BK149.out⟩, ⟨by repeat (first | (with_reducible first | exact HB.out | apply below_alloc | apply pw_below_drewN | apply below_drew1 | refine below_set ?_ GE149.out | refine below_set ?_ GE167.out) | exact HB.out)⟩⟩
                   ·replace c119 := Bool.eq_false_iff.mpr c119
                    subst c119
                    have H1 : (some false) = some true := by rw [if_neg (show ¬ (false = true) by decide)] at H; exact H
                    clear H
                    have H := H1
                    clear H1
                    exact absurd H (by first | decide)
               ·rw [if_neg c28] at H
                exact absurd H (by simp)
              ·rw [if_neg c27] at H
               exact absurd H (by simp)
             ·rw [if_neg c26] at H
              have c26b0 : (t166 == 0) = false := beq_eq_false_iff_ne.mpr c26
              have c26b1 : (t166 != 0) = true := bne_iff_ne.mpr c26
              exact absurd H (by first | decide)
         ·rw [if_neg c16] at H
          exact absurd H (by simp)
        ·rw [if_neg c15] at H
         exact absurd H (by simp)
       ·rw [if_neg c14] at H
        have c14b0 : decide (x30_1 < (l0.length : Int)) = false := decide_eq_false c14
        clear c14
        have H' := Aside0.mk H
        clear H
        go_wp2
        go_loopg [103] k1 (fun kq v103 w' => ∃ (x103_2 : Int) (x150000_2 : List (List (S57))) (x150001_2 : List Int) (u150000 : Value) (u150001 : Value), v103 = .int .i64 x103_2 ∧ Aside0 (curtilagelaw05_InternOnce.l1 kq x6_1 x7_1 (l0.length : Int) x103_2 x150000_2 x150001_2 = some true) ∧ Aside0 (kq ≤ k1) ∧ Aside0 (Kd.R (Kd.int .i64) 3 w' w.heap.size (fun _ => True) v151 x6_1) ∧ Aside0 (Kd.R Kd.bool 4 w' w.heap.size (fun _ => True) v154 x7_1) ∧ Aside0 (Kd.V (Kd.slice 57 k57) 29 w' w.heap.size (fun k_ => some k_ ≠ (v151 : Value).ownBlock ∧ some k_ ≠ (v154 : Value).ownBlock ∧ k_ ≠ gb149) u150000 x150000_2) ∧ Aside0 (Kd.V (Kd.int .i64) 3 w' w.heap.size (fun k_ => some k_ ≠ (v151 : Value).ownBlock ∧ some k_ ≠ (v154 : Value).ownBlock ∧ k_ ≠ gb149) u150001 x150001_2) ∧ Aside0 (w'.heap[gb149]? = some (.cells #[u150000, u150001] 27 (0, 0))) ∧ Aside0 (Below w.heap.size w w'))
        case atStart => exact ⟨(0), (x150000_1), (x150001_1), (u150000), (u150001), (by first | rfl | (simp; done) | (simp [*]; done)), H', ⟨Nat.le_refl _⟩, ⟨by (with_reducible repeat (first | apply Kd.R_alloc | apply Kd.R_drewN | apply Kd.R_drew)); exact HO_6.out⟩, ⟨by (with_reducible repeat (first | apply Kd.R_alloc | apply Kd.R_drewN | apply Kd.R_drew)); exact HO_7.out⟩, ⟨by (with_reducible repeat (first | apply Kd.V_alloc | apply Kd.V_drewN | apply Kd.V_drew)); exact HO_150000.out⟩, ⟨by (with_reducible repeat (first | apply Kd.V_alloc | apply Kd.V_drewN | apply Kd.V_drew)); exact HO_150001.out⟩, ⟨by (with_reducible repeat (first | refine blk_drewN ?_ _ | refine blk_drew ?_ | refine blk_alloc ?_ _)); exact BK149.out⟩, ⟨by repeat (first | (with_reducible first | exact HB.out | apply below_alloc | apply pw_below_drewN | apply below_drew1 | refine below_set ?_ GE149.out) | exact HB.out)⟩⟩
        case round =>
         clear H'
         (try clear c1); (try clear p1); (try clear q1); (try clear hx1); (try clear c2); (try clear p2); (try clear c5); (try clear p5); (try clear q5); (try clear hx5); (try clear hf5); (try clear c6); (try clear p6); (try clear c8); (try clear c9); (try clear c10); (try clear c11); (try clear c12); (try clear c13); (try clear c14); (try clear c14b0); (try clear c15); (try clear c16); (try clear p17); (try clear q17); (try clear hx17); (try clear c26); (try clear c26b0); (try clear c26b1); (try clear c27); (try clear c28); (try clear c53); (try clear c55); (try clear c56); (try clear c58); (try clear p59); (try clear q59); (try clear hx59); (try clear hf59); (try clear c60); (try clear c60b0); (try clear c60b1); (try clear p64); (try clear c110); (try clear c111); (try clear c113); (try clear c119); (try clear c120); (try clear c124); (try clear c134); (try clear hcz112_0); (try clear hcz112_1); (try clear hcz114_0); (try clear hcz114_1); (try clear hcz121_0); (try clear hcz121_1); (try clear hcz125_0); (try clear hcz125_1); (try clear hcz128_0); (try clear hcz128_1); (try clear hcz135_0); (try clear hcz135_1); (try clear hcz99_0); (try clear hcz99_1); (try clear hfz112_0); (try clear hfz112_1); (try clear hfz114_0); (try clear hfz114_1); (try clear hfz121_0); (try clear hfz121_1); (try clear hfz125_0); (try clear hfz125_1); (try clear hfz128_0); (try clear hfz128_1); (try clear hfz135_0); (try clear hfz135_1); (try clear hfz95_1); (try clear hfz99_0); (try clear hfz99_1); (try clear hx171_0); (try clear hx59_0); (try clear p171); (try clear p59); (try clear q171); (try clear q59)
         obtain ⟨x103_2, x150000_2, x150001_2, u150000, u150001, rfl, HA, HK2, HO_6, HO_7, HO_150000, HO_150001, BK149, HB⟩ := hrel
         cases gk with
         | zero => exact absurd HA.out (by simp [curtilagelaw05_InternOnce.l1])
         | succ k2 =>
          have H := HA.out
          clear HA
          simp only [curtilagelaw05_InternOnce.l1] at H
          by_cases c137 : x103_2 < (l0.length : Int)
          ·rw [if_pos c137] at H
           have c137b0 : decide (x103_2 < (l0.length : Int)) = true := decide_eq_true c137
           clear c137
           by_cases c138 : 0 ≤ x103_2
           ·rw [if_pos c138] at H
            have c138b0 : decide (0 ≤ x103_2) = true := decide_eq_true c138
            clear c138
            by_cases c139 : x103_2 < (x7_1.length : Int)
            ·rw [if_pos c139] at H
             have c139b0 : decide (x103_2 < (x7_1.length : Int)) = true := decide_eq_true c139
             clear c139
             obtain ⟨bq140, hbq140⟩ : ∃ b_ : Bool, b_ = (rdOf false x7_1 x103_2) := ⟨_, rfl⟩
             replace H : (if bq140 = true then (curtilagelaw05_InternOnce.l1 k2 x6_1 x7_1 (l0.length : Int) (wrap64 (x103_2 + 1)) x150000_2 x150001_2) else (if x103_2 < (x6_1.length : Int) then ((intern_Drop.f x150000_2 x150001_2 (rd x6_1 x103_2)).bind fun bt186 => (if bt186.2.2 = 0 then (curtilagelaw05_InternOnce.l1 k2 x6_1 x7_1 (l0.length : Int) (wrap64 (x103_2 + 1)) bt186.1 bt186.2.1) else (some false))) else (none))) = some true := by rw [← hbq140] at H; exact H
             have Nbq140 := Aside0.mk hbq140
             clear hbq140
             by_cases c141 : bq140 = true
             ·subst c141
              have H1 : (curtilagelaw05_InternOnce.l1 k2 x6_1 x7_1 (l0.length : Int) (wrap64 (x103_2 + 1)) x150000_2 x150001_2) = some true := by rw [if_pos rfl] at H; exact H
              clear H
              have H := H1
              clear H1
              have H' := Aside0.mk H
              clear H
              obtain ⟨Ao142, co142, eo142⟩ := Kd.R_slice HO_7.out
              subst eo142
              have p184 : 0 ≤ (x103_2 : Int) := of_decide_eq_true (by first | (with_reducible assumption) | assumption)
              have q184 : x103_2 < (x7_1.length : Int) := of_decide_eq_true (by first | (with_reducible assumption) | assumption)
              obtain ⟨ad184, e184, hx184_0⟩ := Kd.at_bool (Kd.R_reads' HO_7.out).2.2 x103_2 p184 q184
              (try rw [← Nbq140.out] at hx184_0)
              cases e184
              replace p184 := eq_true p184
              replace q184 := eq_true q184
              go_wp2
              go_roundg k2
              case measure => have := HK1.out; have := HK2.out; omega
              case rel => exact ⟨(wrap64 (x103_2 + 1)), (x150000_2), (x150001_2), (u150000), (u150001), (by first | rfl | (simp; done) | (simp [*]; done)), H', ⟨by have := HK1.out; have := HK2.out; omega⟩, ⟨by (with_reducible repeat (first | apply Kd.R_alloc | apply Kd.R_drewN | apply Kd.R_drew)); exact HO_6.out⟩, ⟨by (with_reducible repeat (first | apply Kd.R_alloc | apply Kd.R_drewN | apply Kd.R_drew)); exact HO_7.out⟩, ⟨by (with_reducible repeat (first | apply Kd.V_alloc | apply Kd.V_drewN | apply Kd.V_drew)); exact HO_150000.out⟩, ⟨by (with_reducible repeat (first | apply Kd.V_alloc | apply Kd.V_drewN | apply Kd.V_drew)); exact HO_150001.out⟩, ⟨by (with_reducible repeat (first | refine blk_drewN ?_ _ | refine blk_drew ?_ | refine blk_alloc ?_ _)); exact BK149.out⟩, ⟨by repeat (first | (with_reducible first | exact HB.out | apply below_alloc | apply pw_below_drewN | apply below_drew1 | refine below_set ?_ GE149.out) | exact HB.out)⟩⟩
             ·replace c141 := Bool.eq_false_iff.mpr c141
              subst c141
              have H1 : (if x103_2 < (x6_1.length : Int) then ((intern_Drop.f x150000_2 x150001_2 (rd x6_1 x103_2)).bind fun bt186 => (if bt186.2.2 = 0 then (curtilagelaw05_InternOnce.l1 k2 x6_1 x7_1 (l0.length : Int) (wrap64 (x103_2 + 1)) bt186.1 bt186.2.1) else (some false))) else (none)) = some true := by rw [if_neg (show ¬ (false = true) by decide)] at H; exact H
              clear H
              have H := H1
              clear H1
              by_cases c143 : x103_2 < (x6_1.length : Int)
              ·rw [if_pos c143] at H
               have c143b0 : decide (x103_2 < (x6_1.length : Int)) = true := decide_eq_true c143
               clear c143
               replace H := Option.bind_eq_some_iff.mp H
               obtain ⟨⟨t186, t189, t192⟩, A1440, H⟩ := H
               replace H : (if t192 = 0 then (curtilagelaw05_InternOnce.l1 k2 x6_1 x7_1 (l0.length : Int) (wrap64 (x103_2 + 1)) t186 t189) else (some false)) = some true := H
               have A144 := Aside0.mk A1440
               clear A1440
               by_cases c145 : t192 = 0
               ·rw [if_pos c145] at H
                have c145b0 : (t192 == 0) = true := beq_iff_eq.mpr c145
                have c145b1 : (t192 != 0) = false := bne_eq_false_iff_eq.mpr c145
                clear c145
                have H' := Aside0.mk H
                clear H
                obtain ⟨Ao146, co146, eo146⟩ := Kd.R_slice HO_7.out
                subst eo146
                have p184 : 0 ≤ (x103_2 : Int) := of_decide_eq_true (by first | (with_reducible assumption) | assumption)
                have q184 : x103_2 < (x7_1.length : Int) := of_decide_eq_true (by first | (with_reducible assumption) | assumption)
                obtain ⟨ad184, e184, hx184_0⟩ := Kd.at_bool (Kd.R_reads' HO_7.out).2.2 x103_2 p184 q184
                (try rw [← Nbq140.out] at hx184_0)
                cases e184
                replace p184 := eq_true p184
                replace q184 := eq_true q184
                obtain ⟨Ao147, co147, eo147⟩ := Kd.V_slice HO_150000.out
                subst eo147
                obtain ⟨Ao148, co148, eo148⟩ := Kd.V_slice HO_150001.out
                subst eo148
                try go_wp2
                have n0_ := Aside0.mk (Kd.R_drew HO_6.out)
                have n1_ := Aside0.mk (Kd.R_drew HO_7.out)
                have n2_ := Aside0.mk (Kd.V_drew HO_150000.out)
                have n3_ := Aside0.mk (Kd.V_drew HO_150001.out)
                have n4_ := Aside0.mk (blk_drew BK149.out)
                have n5_ := Aside0.mk (below_drew1 HB.out)
                clear HO_6
                clear HO_7
                clear HO_150000
                clear HO_150001
                clear BK149
                clear HB
                have HO_6 := n0_
                have HO_7 := n1_
                have HO_150000 := n2_
                have HO_150001 := n3_
                have BK149 := n4_
                have HB := n5_
                clear n0_ n1_ n2_ n3_ n4_ n5_
                obtain ⟨Ao150, co150, eo150⟩ := Kd.R_slice HO_6.out
                (first | subst eo150 | (injection eo150 with f1_ f2_ f3_; have f4_ := f1_.symm; have f5_ := f3_.symm; clear f1_ f2_ f3_; subst f4_; subst f5_))
                have p185 : 0 ≤ (x103_2 : Int) := of_decide_eq_true (by first | (with_reducible assumption) | assumption)
                have q185 : x103_2 < (x6_1.length : Int) := of_decide_eq_true (by first | (with_reducible assumption) | assumption)
                obtain ⟨ad185, e185, hx185_0⟩ := Kd.at_int (Kd.R_reads' HO_6.out).2.2 x103_2 p185 q185
                cases e185
                replace p185 := eq_true p185
                replace q185 := eq_true q185
                refine start_ (n := 12) (S := fun w' => w'.cell? ⟨gb149, 0, none⟩ = some (.slice Ao147 x150000_2.length co147) ∧ w'.cell? ⟨gb149, 1, none⟩ = some (.slice Ao148 x150001_2.length co148) ∧ w'.cell? (ad185.add (x103_2).toNat) = some (.int .i64 (rd x6_1 x103_2))) (ds := []) #[false, false, false, false, false, false, false, false, false, false, false, false] (by kernel_rfl) rfl rfl ⟨(blk_cell BK149.out 0).trans rfl, (blk_cell BK149.out 1).trans rfl, hx185_0⟩ (fun hHeld => ?_); refine with_tabW curtilagelaw05_InternOnce.tab27 curtilagelaw05_InternOnce.bits27 (fun HT_ HW_ => ?_)
                generalize wr.drew = w149 at HO_6 HO_7 HO_150000 HO_150001 BK149 HB hx185_0 hHeld ⊢
                refine pure_ (i := 1) (N := some 113) (v := ?_) (a' := ?_) #[false, true, false, false, false, false, false, false, false, false, false, false] rfl rfl (any_of HT_.out (by kernel_rfl)) (fun _ _ _ h => h) (Or.inl ⟨by rfl, ?_⟩) ?_ ?_
                rotate_left
                ·intro w'
                 go_simp
                 with_reducible rfl
                rotate_left
                ·simp only [Act.put, List.setIfInBounds_toArray, List.set_cons_zero, List.set_cons_succ, i64_w, i32_w]
                 rfl
                refine pure_ (i := 2) (N := some 114) (v := ?_) (a' := ?_) #[false, true, true, false, false, false, false, false, false, false, false, false] rfl rfl (any_of HT_.out (by kernel_rfl)) (fun _ _ _ h => h) (Or.inl ⟨by rfl, ?_⟩) ?_ ?_
                rotate_left
                ·intro w'
                 go_simp
                 with_reducible rfl
                rotate_left
                ·simp only [Act.put, List.setIfInBounds_toArray, List.set_cons_zero, List.set_cons_succ, i64_w, i32_w]
                 rfl
                refine pure_ (i := 3) (N := some 115) (v := ?_) (a' := ?_) #[false, true, true, true, false, false, false, false, false, false, false, false] rfl rfl (any_of HT_.out (by kernel_rfl)) (fun _ _ _ h => h) (Or.inl ⟨by rfl, ?_⟩) ?_ ?_
                rotate_left
                ·intro w'
                 go_simp
                 with_reducible rfl
                rotate_left
                ·simp only [Act.put, List.setIfInBounds_toArray, List.set_cons_zero, List.set_cons_succ, i64_w, i32_w]
                 rfl
                refine take_ (i := 0) (N := some 112) (v := ?_) (a' := ?_) #[true, true, true, true, false, false, false, false, false, false, false, false] rfl rfl (take_ofW HT_.out HW_.out (by kernel_rfl)) (fun _ _ _ h => h) (Or.inl ⟨by rfl, ?_⟩) hHeld ?_ ?_
                rotate_left
                ·rintro w' ⟨s0, s1, s2⟩
                 go_simp
                 with_reducible rfl
                rotate_left
                ·simp only [Act.put, List.setIfInBounds_toArray, List.set_cons_zero, List.set_cons_succ, i64_w, i32_w]
                 rfl
                refine take_ (i := 4) (N := some 116) (v := ?_) (a' := ?_) #[true, true, true, true, true, false, false, false, false, false, false, false] rfl rfl (take_ofW HT_.out HW_.out (by kernel_rfl)) (fun _ _ _ h => h) (Or.inl ⟨by rfl, ?_⟩) hHeld ?_ ?_
                rotate_left
                ·rintro w' ⟨s0, s1, s2⟩
                 go_simp
                 with_reducible rfl
                rotate_left
                ·simp only [Act.put, List.setIfInBounds_toArray, List.set_cons_zero, List.set_cons_succ, i64_w, i32_w]
                 rfl
                refine join_ (σ := Value × Value × Nat) 2 #[true, true, true, true, true, true, true, true, true, true, false, false] (fun s_ => [(117, .tuple #[.agg #[s_.1, s_.2.1], .int .i64 t192]), (16, .pointer (some ⟨s_.2.2, 0, none⟩)), (111, .tuple #[.agg #[s_.1, s_.2.1], .int .i64 t192]), (118, .agg #[s_.1, s_.2.1]), (119, .int .i64 t192)]) (fun s_ w' => (w'.cell? ⟨gb149, 0, none⟩ = some (.slice Ao147 x150000_2.length co147) ∧ w'.cell? ⟨gb149, 1, none⟩ = some (.slice Ao148 x150001_2.length co148) ∧ w'.cell? (ad185.add (x103_2).toNat) = some (.int .i64 (rd x6_1 x103_2))) ∧ (Kd.V (Kd.slice 57 k57) 29 w' w.heap.size (fun k_ => some k_ ≠ (.slice (some ad185) x6_1.length co150 : Value).ownBlock ∧ some k_ ≠ (.slice (some ad184) x7_1.length co146 : Value).ownBlock ∧ k_ ≠ gb149 ∧ k_ ≠ s_.2.2) s_.1 t186) ∧ (Kd.V (Kd.int .i64) 3 w' w.heap.size (fun k_ => some k_ ≠ (.slice (some ad185) x6_1.length co150 : Value).ownBlock ∧ some k_ ≠ (.slice (some ad184) x7_1.length co146 : Value).ownBlock ∧ k_ ≠ gb149 ∧ k_ ≠ s_.2.2) s_.2.1 t189) ∧ (Kd.V (Kd.slice 57 k57) 29 w' w.heap.size (fun k_ => some k_ ≠ (.slice (some ad185) x6_1.length co150 : Value).ownBlock ∧ some k_ ≠ (.slice (some ad184) x7_1.length co146 : Value).ownBlock ∧ k_ ≠ gb149 ∧ k_ ≠ s_.2.2) (.slice Ao147 x150000_2.length co147) x150000_2) ∧ (Kd.V (Kd.int .i64) 3 w' w.heap.size (fun k_ => some k_ ≠ (.slice (some ad185) x6_1.length co150 : Value).ownBlock ∧ some k_ ≠ (.slice (some ad184) x7_1.length co146 : Value).ownBlock ∧ k_ ≠ gb149 ∧ k_ ≠ s_.2.2) (.slice Ao148 x150001_2.length co148) x150001_2) ∧ (Kd.R (Kd.int .i64) 3 w' w.heap.size (fun _ => True) (.slice (some ad185) x6_1.length co150) x6_1) ∧ (Kd.R Kd.bool 4 w' w.heap.size (fun _ => True) (.slice (some ad184) x7_1.length co146) x7_1) ∧ (w'.heap[gb149]? = some (.cells #[.slice Ao147 x150000_2.length co147, .slice Ao148 x150001_2.length co148] 27 (0, 0))) ∧ (w'.heap[s_.2.2]? = some (.cells #[.slice none 0 0, .slice none 0 0] 27 (0, 0))) ∧ (w.heap.size ≤ s_.2.2) ∧ (w.heap.size ≤ s_.2.2) ∧ (gb149 ≠ s_.2.2) ∧ (s_.2.2 ≠ gb149) ∧ (Below w.heap.size w w')) ?_ ?_
                rotate_left
                ·intro hCont
                 refine two_ (i := 5) (j := 9) (Ni := some 117) (Nj := some 16) #[true, true, true, true, true, true, false, false, false, false, false, false] #[true, true, true, true, true, false, false, false, false, true, false, false] rfl rfl rfl rfl (two_of HT_.out (by kernel_rfl)) (by decide) (by decide) (fun K hK => ?_) (fun K hK => ?_)
                 ·skip
                  refine goes_ Try.func9 (by kernel_rfl) rfl #[.agg #[.slice Ao147 x150000_2.length co147, .slice Ao148 x150001_2.length co148], .int .i64 (rd x6_1 x103_2)] (by rfl) rfl rfl (by (try simp only [List.map_toArray, List.map_cons, List.map_nil]); first | done | rfl | (simp only [List.length_drop, List.length_take]; rfl)) ?_
                  with_reducible refine (intern_Drop.calls (fun k_ => (some k_ ≠ (.slice (some ad185) x6_1.length co150 : Value).ownBlock ∧ (some k_ ≠ (.slice (some ad184) x7_1.length co146 : Value).ownBlock ∧ k_ ≠ gb149))) _ _ x150000_2 (fun k_ => (some k_ ≠ (.slice (some ad185) x6_1.length co150 : Value).ownBlock ∧ (some k_ ≠ (.slice (some ad184) x7_1.length co146 : Value).ownBlock ∧ k_ ≠ gb149))) _ _ x150001_2 (rd x6_1 x103_2) t186 t189 t192 _ ?side1 ?side2 A144.out).mono ?_
                  (case side1 => exact HO_150000.out)
                  (case side2 => exact HO_150001.out)
                  rintro e w151 ⟨v187, v190, rfl, ho0, ho1, hb⟩
                  have HS2_ := (hb.cell (World.block_lt_of_cell? _ _ (hHeld.2.2))).trans (hHeld.2.2)
                  refine ⟨_, rfl, ?_⟩
                  have n0_ := Aside0.mk (Kd.R_below (by (with_reducible repeat (first | apply Kd.R_alloc | apply Kd.R_drewN | apply Kd.R_drew)); exact HO_6.out) hb)
                  have n1_ := Aside0.mk (Kd.R_below (by (with_reducible repeat (first | apply Kd.R_alloc | apply Kd.R_drewN | apply Kd.R_drew)); exact HO_7.out) hb)
                  have n2_ := Aside0.mk (Kd.V_below (by (with_reducible repeat (first | apply Kd.V_alloc | apply Kd.V_drewN | apply Kd.V_drew)); exact HO_150000.out) hb)
                  have n3_ := Aside0.mk (Kd.V_below (by (with_reducible repeat (first | apply Kd.V_alloc | apply Kd.V_drewN | apply Kd.V_drew)); exact HO_150001.out) hb)
                  have n4_ := Aside0.mk (Kd.V_lower (Kd.V_mono (ok' := fun k_ => some k_ ≠ (.slice (some ad185) x6_1.length co150 : Value).ownBlock ∧ some k_ ≠ (.slice (some ad184) x7_1.length co146 : Value).ownBlock ∧ k_ ≠ gb149) ho0 (fun k_ hk_ => ⟨Or.elim hk_ (fun hs_ => Or.elim hs_ (fun hs_ => hs_.1) (fun hs_ => hs_.1)) (fun hn_ => (Kd.fresh' (Kd.R_lt (by (with_reducible repeat (first | apply Kd.R_alloc | apply Kd.R_drewN | apply Kd.R_drew)); exact HO_6.out)) k_ hn_)), Or.elim hk_ (fun hs_ => Or.elim hs_ (fun hs_ => hs_.2.1) (fun hs_ => hs_.2.1)) (fun hn_ => (Kd.fresh' (Kd.R_lt (by (with_reducible repeat (first | apply Kd.R_alloc | apply Kd.R_drewN | apply Kd.R_drew)); exact HO_7.out)) k_ hn_)), Or.elim hk_ (fun hs_ => Or.elim hs_ (fun hs_ => hs_.2.2) (fun hs_ => hs_.2.2)) (fun hn_ => (Kd.freshB (g := gb149) (o := .cells #[.slice Ao147 x150000_2.length co147, .slice Ao148 x150001_2.length co148] 27 (0, 0)) (by (with_reducible repeat (first | refine blk_drewN ?_ _ | refine blk_drew ?_ | refine blk_alloc ?_ _)); exact BK149.out) k_ hn_))⟩)) (below_size (by repeat (first | (with_reducible first | exact HB.out | apply below_alloc | apply pw_below_drewN | apply below_drew1 | refine below_set ?_ GE149.out) | exact HB.out))))
                  have n5_ := Aside0.mk (Kd.V_lower (Kd.V_mono (ok' := fun k_ => some k_ ≠ (.slice (some ad185) x6_1.length co150 : Value).ownBlock ∧ some k_ ≠ (.slice (some ad184) x7_1.length co146 : Value).ownBlock ∧ k_ ≠ gb149) ho1 (fun k_ hk_ => ⟨Or.elim hk_ (fun hs_ => Or.elim hs_ (fun hs_ => hs_.1) (fun hs_ => hs_.1)) (fun hn_ => (Kd.fresh' (Kd.R_lt (by (with_reducible repeat (first | apply Kd.R_alloc | apply Kd.R_drewN | apply Kd.R_drew)); exact HO_6.out)) k_ hn_)), Or.elim hk_ (fun hs_ => Or.elim hs_ (fun hs_ => hs_.2.1) (fun hs_ => hs_.2.1)) (fun hn_ => (Kd.fresh' (Kd.R_lt (by (with_reducible repeat (first | apply Kd.R_alloc | apply Kd.R_drewN | apply Kd.R_drew)); exact HO_7.out)) k_ hn_)), Or.elim hk_ (fun hs_ => Or.elim hs_ (fun hs_ => hs_.2.2) (fun hs_ => hs_.2.2)) (fun hn_ => (Kd.freshB (g := gb149) (o := .cells #[.slice Ao147 x150000_2.length co147, .slice Ao148 x150001_2.length co148] 27 (0, 0)) (by (with_reducible repeat (first | refine blk_drewN ?_ _ | refine blk_drew ?_ | refine blk_alloc ?_ _)); exact BK149.out) k_ hn_))⟩)) (below_size (by repeat (first | (with_reducible first | exact HB.out | apply below_alloc | apply pw_below_drewN | apply below_drew1 | refine below_set ?_ GE149.out) | exact HB.out))))
                  have n6_ := Aside0.mk (blk_below (g := gb149) (o := .cells #[.slice Ao147 x150000_2.length co147, .slice Ao148 x150001_2.length co148] 27 (0, 0)) (by (with_reducible repeat (first | refine blk_drewN ?_ _ | refine blk_drew ?_ | refine blk_alloc ?_ _)); exact BK149.out) hb)
                  have n7_ := Aside0.mk (below_step (by repeat (first | (with_reducible first | exact HB.out | apply below_alloc | apply pw_below_drewN | apply below_drew1 | refine below_set ?_ GE149.out) | exact HB.out)) hb)
                  clear HO_6
                  clear HO_7
                  clear HO_150000
                  clear HO_150001
                  clear BK149
                  clear HB
                  have HO_6 := n0_
                  have HO_7 := n1_
                  have HO_150000 := n2_
                  have HO_150001 := n3_
                  have HO188 := n4_
                  have HO191 := n5_
                  have BK149 := n6_
                  have HB := n7_
                  clear n0_ n1_ n2_ n3_ n4_ n5_ n6_ n7_
                  (try clear hb)
                  (try clear hb2)
                  (try clear hk)
                  (try clear hi)
                  (try clear ho0)
                  (try clear ho1)
                  refine hK.out _ _ ⟨(blk_cell BK149.out 0).trans rfl, (blk_cell BK149.out 1).trans rfl, HS2_⟩ (fun hHeld => ?_)
                  clear hK K
                  refine norm_ (a' := ?_) ?_ ?_
                  rotate_left
                  ·show Act.put _ (some 117) _ = _
                   simp only [Act.put, List.setIfInBounds_toArray, List.set_cons_zero, List.set_cons_succ, i64_w, i32_w]
                   rfl
                  refine pure_ (i := 6) (N := some 111) (v := ?_) (a' := ?_) #[true, true, true, true, true, true, true, false, false, false, false, false] rfl rfl (any_of HT_.out (by kernel_rfl)) (fun _ _ _ h => h) (Or.inl ⟨by rfl, ?_⟩) ?_ ?_
                  rotate_left
                  ·intro w'
                   go_simp
                   with_reducible rfl
                  rotate_left
                  ·simp only [Act.put, List.setIfInBounds_toArray, List.set_cons_zero, List.set_cons_succ, i64_w, i32_w]
                   rfl
                  refine pure_ (i := 7) (N := some 118) (v := ?_) (a' := ?_) #[true, true, true, true, true, true, true, true, false, false, false, false] rfl rfl (any_of HT_.out (by kernel_rfl)) (fun _ _ _ h => h) (Or.inl ⟨by rfl, ?_⟩) ?_ ?_
                  rotate_left
                  ·intro w'
                   go_simp
                   with_reducible rfl
                  rotate_left
                  ·simp only [Act.put, List.setIfInBounds_toArray, List.set_cons_zero, List.set_cons_succ, i64_w, i32_w]
                   rfl
                  refine pure_ (i := 8) (N := some 119) (v := ?_) (a' := ?_) #[true, true, true, true, true, true, true, true, true, false, false, false] rfl rfl (any_of HT_.out (by kernel_rfl)) (fun _ _ _ h => h) (Or.inl ⟨by rfl, ?_⟩) ?_ ?_
                  rotate_left
                  ·intro w'
                   go_simp
                   with_reducible rfl
                  rotate_left
                  ·simp only [Act.put, List.setIfInBounds_toArray, List.set_cons_zero, List.set_cons_succ, i64_w, i32_w]
                   rfl
                  refine one_ (i := 9) (N := some 16) #[true, true, true, true, true, true, true, true, true, true, false, false] rfl rfl (one_of HT_.out (by kernel_rfl)) (by decide) (fun K hK => ?_)
                  refine box_step ?hg (N := 16) ?hd (cs := #[.slice none 0 0, .slice none 0 0]) (t := 27) ?hr ?_; (case hd => rfl); (case hg => rfl); (case hr => first | (go_simp; done) | (go_simp; rfl))
                  intro gb193 hg w152 hbox hb
                  have HS2_ := (hb.cell (World.block_lt_of_cell? _ _ (hHeld.2.2))).trans (hHeld.2.2)
                  have n0_ := Aside0.mk (Kd.R_below (by (with_reducible repeat (first | apply Kd.R_alloc | apply Kd.R_drewN | apply Kd.R_drew)); exact HO_6.out) hb)
                  have n1_ := Aside0.mk (Kd.R_below (by (with_reducible repeat (first | apply Kd.R_alloc | apply Kd.R_drewN | apply Kd.R_drew)); exact HO_7.out) hb)
                  have n2_ := Aside0.mk (Kd.V_below (Kd.V_elderB (by (with_reducible repeat (first | apply Kd.V_alloc | apply Kd.V_drewN | apply Kd.V_drew)); exact HO_150000.out) gb193 (Nat.le_of_eq hg.symm)) hb)
                  have n3_ := Aside0.mk (Kd.V_below (Kd.V_elderB (by (with_reducible repeat (first | apply Kd.V_alloc | apply Kd.V_drewN | apply Kd.V_drew)); exact HO_150001.out) gb193 (Nat.le_of_eq hg.symm)) hb)
                  have n4_ := Aside0.mk (Kd.V_below (Kd.V_elderB (by (with_reducible repeat (first | apply Kd.V_alloc | apply Kd.V_drewN | apply Kd.V_drew)); exact HO188.out) gb193 (Nat.le_of_eq hg.symm)) hb)
                  have n5_ := Aside0.mk (Kd.V_below (Kd.V_elderB (by (with_reducible repeat (first | apply Kd.V_alloc | apply Kd.V_drewN | apply Kd.V_drew)); exact HO191.out) gb193 (Nat.le_of_eq hg.symm)) hb)
                  have n6_ := Aside0.mk (blk_below (g := gb149) (o := .cells #[.slice Ao147 x150000_2.length co147, .slice Ao148 x150001_2.length co148] 27 (0, 0)) (by (with_reducible repeat (first | refine blk_drewN ?_ _ | refine blk_drew ?_ | refine blk_alloc ?_ _)); exact BK149.out) hb)
                  have n7_ := Aside0.mk (below_step (by repeat (first | (with_reducible first | exact HB.out | apply below_alloc | apply pw_below_drewN | apply below_drew1 | refine below_set ?_ GE149.out) | exact HB.out)) hb)
                  have n8_ := Aside0.mk (hbox)
                  have n9_ := Aside0.mk ((by rw [hg]; exact (below_size (by repeat (first | (with_reducible first | exact HB.out | apply below_alloc | apply pw_below_drewN | apply below_drew1 | refine below_set ?_ GE149.out) | exact HB.out))) : w.heap.size ≤ gb193))
                  have n10_ := Aside0.mk ((by rw [hg]; exact (below_size (by repeat (first | (with_reducible first | exact HB.out | apply below_alloc | apply pw_below_drewN | apply below_drew1 | refine below_set ?_ GE149.out) | exact HB.out))) : w.heap.size ≤ gb193))
                  have n11_ := Aside0.mk ((by rw [hg]; exact Nat.ne_of_lt (blk_lt (g := gb149) (o := .cells #[.slice Ao147 x150000_2.length co147, .slice Ao148 x150001_2.length co148] 27 (0, 0)) (by (with_reducible repeat (first | refine blk_drewN ?_ _ | refine blk_drew ?_ | refine blk_alloc ?_ _)); exact BK149.out)) : gb149 ≠ gb193))
                  have n12_ := Aside0.mk ((by rw [hg]; exact Nat.ne_of_gt (blk_lt (g := gb149) (o := .cells #[.slice Ao147 x150000_2.length co147, .slice Ao148 x150001_2.length co148] 27 (0, 0)) (by (with_reducible repeat (first | refine blk_drewN ?_ _ | refine blk_drew ?_ | refine blk_alloc ?_ _)); exact BK149.out)) : gb193 ≠ gb149))
                  clear HO_6
                  clear HO_7
                  clear HO_150000
                  clear HO_150001
                  clear HO188
                  clear HO191
                  clear BK149
                  clear HB
                  have HO_6 := n0_
                  have HO_7 := n1_
                  have HO_150000 := n2_
                  have HO_150001 := n3_
                  have HO188 := n4_
                  have HO191 := n5_
                  have BK149 := n6_
                  have HB := n7_
                  have BK193 := n8_
                  have GW193 := n9_
                  have GE193 := n10_
                  have NB149_193 := n11_
                  have NB193_149 := n12_
                  clear n0_ n1_ n2_ n3_ n4_ n5_ n6_ n7_ n8_ n9_ n10_ n11_ n12_
                  clear hb hbox hg
                  refine hK.out _ _ ⟨(blk_cell BK149.out 0).trans rfl, (blk_cell BK149.out 1).trans rfl, HS2_⟩ (fun hHeld => ?_)
                  clear hK K
                  refine norm_ (a' := ?_) ?_ ?_
                  rotate_left
                  ·show Act.put _ (some 16) _ = _
                   simp only [Act.put, List.setIfInBounds_toArray, List.set_cons_zero, List.set_cons_succ, i64_w, i32_w]
                   rfl
                  exact norm_ (by simp only [putAll, Act.put, List.setIfInBounds_toArray, List.set_cons_zero, List.set_cons_succ]) (hCont (v187, v190, gb193) _ ⟨hHeld, (by (with_reducible repeat (first | apply Kd.V_alloc | apply Kd.V_drewN | apply Kd.V_drew)); exact Kd.V_mono HO188.out (fun _ hk => ⟨hk.1.1, ⟨hk.1.2.1, ⟨hk.1.2.2, hk.2⟩⟩⟩)), (by (with_reducible repeat (first | apply Kd.V_alloc | apply Kd.V_drewN | apply Kd.V_drew)); exact Kd.V_mono HO191.out (fun _ hk => ⟨hk.1.1, ⟨hk.1.2.1, ⟨hk.1.2.2, hk.2⟩⟩⟩)), (by (with_reducible repeat (first | apply Kd.V_alloc | apply Kd.V_drewN | apply Kd.V_drew)); exact Kd.V_mono HO_150000.out (fun _ hk => ⟨hk.1.1, ⟨hk.1.2.1, ⟨hk.1.2.2, hk.2⟩⟩⟩)), (by (with_reducible repeat (first | apply Kd.V_alloc | apply Kd.V_drewN | apply Kd.V_drew)); exact Kd.V_mono HO_150001.out (fun _ hk => ⟨hk.1.1, ⟨hk.1.2.1, ⟨hk.1.2.2, hk.2⟩⟩⟩)), (by (with_reducible repeat (first | apply Kd.R_alloc | apply Kd.R_drewN | apply Kd.R_drew)); exact HO_6.out), (by (with_reducible repeat (first | apply Kd.R_alloc | apply Kd.R_drewN | apply Kd.R_drew)); exact HO_7.out), (by (with_reducible repeat (first | refine blk_drewN ?_ _ | refine blk_drew ?_ | refine blk_alloc ?_ _)); exact BK149.out), (by (with_reducible repeat (first | refine blk_drewN ?_ _ | refine blk_drew ?_ | refine blk_alloc ?_ _)); exact BK193.out), GW193.out, GE193.out, NB149_193.out, NB193_149.out, (by repeat (first | (with_reducible first | exact HB.out | apply below_alloc | apply pw_below_drewN | apply below_drew1 | refine below_set ?_ GE149.out | refine below_set ?_ GE193.out) | exact HB.out))⟩)
                 ·skip
                  refine box_step ?hg (N := 16) ?hd (cs := #[.slice none 0 0, .slice none 0 0]) (t := 27) ?hr ?_; (case hd => rfl); (case hg => rfl); (case hr => first | (go_simp; done) | (go_simp; rfl))
                  intro gb193 hg w151 hbox hb
                  have HS2_ := (hb.cell (World.block_lt_of_cell? _ _ (hHeld.2.2))).trans (hHeld.2.2)
                  have n0_ := Aside0.mk (Kd.R_below (by (with_reducible repeat (first | apply Kd.R_alloc | apply Kd.R_drewN | apply Kd.R_drew)); exact HO_6.out) hb)
                  have n1_ := Aside0.mk (Kd.R_below (by (with_reducible repeat (first | apply Kd.R_alloc | apply Kd.R_drewN | apply Kd.R_drew)); exact HO_7.out) hb)
                  have n2_ := Aside0.mk (Kd.V_below (Kd.V_elderB (by (with_reducible repeat (first | apply Kd.V_alloc | apply Kd.V_drewN | apply Kd.V_drew)); exact HO_150000.out) gb193 (Nat.le_of_eq hg.symm)) hb)
                  have n3_ := Aside0.mk (Kd.V_below (Kd.V_elderB (by (with_reducible repeat (first | apply Kd.V_alloc | apply Kd.V_drewN | apply Kd.V_drew)); exact HO_150001.out) gb193 (Nat.le_of_eq hg.symm)) hb)
                  have n4_ := Aside0.mk (blk_below (g := gb149) (o := .cells #[.slice Ao147 x150000_2.length co147, .slice Ao148 x150001_2.length co148] 27 (0, 0)) (by (with_reducible repeat (first | refine blk_drewN ?_ _ | refine blk_drew ?_ | refine blk_alloc ?_ _)); exact BK149.out) hb)
                  have n5_ := Aside0.mk (below_step (by repeat (first | (with_reducible first | exact HB.out | apply below_alloc | apply pw_below_drewN | apply below_drew1 | refine below_set ?_ GE149.out) | exact HB.out)) hb)
                  have n6_ := Aside0.mk (hbox)
                  have n7_ := Aside0.mk ((by rw [hg]; exact (below_size (by repeat (first | (with_reducible first | exact HB.out | apply below_alloc | apply pw_below_drewN | apply below_drew1 | refine below_set ?_ GE149.out) | exact HB.out))) : w.heap.size ≤ gb193))
                  have n8_ := Aside0.mk ((by rw [hg]; exact (below_size (by repeat (first | (with_reducible first | exact HB.out | apply below_alloc | apply pw_below_drewN | apply below_drew1 | refine below_set ?_ GE149.out) | exact HB.out))) : w.heap.size ≤ gb193))
                  have n9_ := Aside0.mk ((by rw [hg]; exact Nat.ne_of_lt (blk_lt (g := gb149) (o := .cells #[.slice Ao147 x150000_2.length co147, .slice Ao148 x150001_2.length co148] 27 (0, 0)) (by (with_reducible repeat (first | refine blk_drewN ?_ _ | refine blk_drew ?_ | refine blk_alloc ?_ _)); exact BK149.out)) : gb149 ≠ gb193))
                  have n10_ := Aside0.mk ((by rw [hg]; exact Nat.ne_of_gt (blk_lt (g := gb149) (o := .cells #[.slice Ao147 x150000_2.length co147, .slice Ao148 x150001_2.length co148] 27 (0, 0)) (by (with_reducible repeat (first | refine blk_drewN ?_ _ | refine blk_drew ?_ | refine blk_alloc ?_ _)); exact BK149.out)) : gb193 ≠ gb149))
                  clear HO_6
                  clear HO_7
                  clear HO_150000
                  clear HO_150001
                  clear BK149
                  clear HB
                  have HO_6 := n0_
                  have HO_7 := n1_
                  have HO_150000 := n2_
                  have HO_150001 := n3_
                  have BK149 := n4_
                  have HB := n5_
                  have BK193 := n6_
                  have GW193 := n7_
                  have GE193 := n8_
                  have NB149_193 := n9_
                  have NB193_149 := n10_
                  clear n0_ n1_ n2_ n3_ n4_ n5_ n6_ n7_ n8_ n9_ n10_
                  clear hb hbox hg
                  refine hK.out _ _ ⟨(blk_cell BK149.out 0).trans rfl, (blk_cell BK149.out 1).trans rfl, HS2_⟩ (fun hHeld => ?_)
                  clear hK K
                  refine norm_ (a' := ?_) ?_ ?_
                  rotate_left
                  ·show Act.put _ (some 16) _ = _
                   simp only [Act.put, List.setIfInBounds_toArray, List.set_cons_zero, List.set_cons_succ, i64_w, i32_w]
                   rfl
                  refine one_ (i := 5) (N := some 117) #[true, true, true, true, true, true, false, false, false, true, false, false] rfl rfl (one_of HT_.out (by kernel_rfl)) (by decide) (fun K hK => ?_)
                  refine goes_ Try.func9 (by kernel_rfl) rfl #[.agg #[.slice Ao147 x150000_2.length co147, .slice Ao148 x150001_2.length co148], .int .i64 (rd x6_1 x103_2)] (by rfl) rfl rfl (by (try simp only [List.map_toArray, List.map_cons, List.map_nil]); first | done | rfl | (simp only [List.length_drop, List.length_take]; rfl)) ?_
                  with_reducible refine (intern_Drop.calls (fun k_ => ((some k_ ≠ (.slice (some ad185) x6_1.length co150 : Value).ownBlock ∧ (some k_ ≠ (.slice (some ad184) x7_1.length co146 : Value).ownBlock ∧ k_ ≠ gb149)) ∧ k_ ≠ gb193)) _ _ x150000_2 (fun k_ => ((some k_ ≠ (.slice (some ad185) x6_1.length co150 : Value).ownBlock ∧ (some k_ ≠ (.slice (some ad184) x7_1.length co146 : Value).ownBlock ∧ k_ ≠ gb149)) ∧ k_ ≠ gb193)) _ _ x150001_2 (rd x6_1 x103_2) t186 t189 t192 _ ?side1 ?side2 A144.out).mono ?_
                  (case side1 => exact HO_150000.out)
                  (case side2 => exact HO_150001.out)
                  rintro e w152 ⟨v187, v190, rfl, ho0, ho1, hb⟩
                  have HS2_ := (hb.cell (World.block_lt_of_cell? _ _ (hHeld.2.2))).trans (hHeld.2.2)
                  refine ⟨_, rfl, ?_⟩
                  have n0_ := Aside0.mk (Kd.R_below (by (with_reducible repeat (first | apply Kd.R_alloc | apply Kd.R_drewN | apply Kd.R_drew)); exact HO_6.out) hb)
                  have n1_ := Aside0.mk (Kd.R_below (by (with_reducible repeat (first | apply Kd.R_alloc | apply Kd.R_drewN | apply Kd.R_drew)); exact HO_7.out) hb)
                  have n2_ := Aside0.mk (Kd.V_below (by (with_reducible repeat (first | apply Kd.V_alloc | apply Kd.V_drewN | apply Kd.V_drew)); exact HO_150000.out) hb)
                  have n3_ := Aside0.mk (Kd.V_below (by (with_reducible repeat (first | apply Kd.V_alloc | apply Kd.V_drewN | apply Kd.V_drew)); exact HO_150001.out) hb)
                  have n4_ := Aside0.mk (Kd.V_lower (Kd.V_mono (ok' := fun k_ => some k_ ≠ (.slice (some ad185) x6_1.length co150 : Value).ownBlock ∧ some k_ ≠ (.slice (some ad184) x7_1.length co146 : Value).ownBlock ∧ k_ ≠ gb149 ∧ k_ ≠ gb193) ho0 (fun k_ hk_ => ⟨Or.elim hk_ (fun hs_ => Or.elim hs_ (fun hs_ => hs_.1.1) (fun hs_ => hs_.1.1)) (fun hn_ => (Kd.fresh' (Kd.R_lt (by (with_reducible repeat (first | apply Kd.R_alloc | apply Kd.R_drewN | apply Kd.R_drew)); exact HO_6.out)) k_ hn_)), Or.elim hk_ (fun hs_ => Or.elim hs_ (fun hs_ => hs_.1.2.1) (fun hs_ => hs_.1.2.1)) (fun hn_ => (Kd.fresh' (Kd.R_lt (by (with_reducible repeat (first | apply Kd.R_alloc | apply Kd.R_drewN | apply Kd.R_drew)); exact HO_7.out)) k_ hn_)), Or.elim hk_ (fun hs_ => Or.elim hs_ (fun hs_ => hs_.1.2.2) (fun hs_ => hs_.1.2.2)) (fun hn_ => (Kd.freshB (g := gb149) (o := .cells #[.slice Ao147 x150000_2.length co147, .slice Ao148 x150001_2.length co148] 27 (0, 0)) (by (with_reducible repeat (first | refine blk_drewN ?_ _ | refine blk_drew ?_ | refine blk_alloc ?_ _)); exact BK149.out) k_ hn_)), Or.elim hk_ (fun hs_ => Or.elim hs_ (fun hs_ => hs_.2) (fun hs_ => hs_.2)) (fun hn_ => (Kd.freshB (g := gb193) (o := .cells #[.slice none 0 0, .slice none 0 0] 27 (0, 0)) (by (with_reducible repeat (first | refine blk_drewN ?_ _ | refine blk_drew ?_ | refine blk_alloc ?_ _)); exact BK193.out) k_ hn_))⟩)) (below_size (by repeat (first | (with_reducible first | exact HB.out | apply below_alloc | apply pw_below_drewN | apply below_drew1 | refine below_set ?_ GE149.out | refine below_set ?_ GE193.out) | exact HB.out))))
                  have n5_ := Aside0.mk (Kd.V_lower (Kd.V_mono (ok' := fun k_ => some k_ ≠ (.slice (some ad185) x6_1.length co150 : Value).ownBlock ∧ some k_ ≠ (.slice (some ad184) x7_1.length co146 : Value).ownBlock ∧ k_ ≠ gb149 ∧ k_ ≠ gb193) ho1 (fun k_ hk_ => ⟨Or.elim hk_ (fun hs_ => Or.elim hs_ (fun hs_ => hs_.1.1) (fun hs_ => hs_.1.1)) (fun hn_ => (Kd.fresh' (Kd.R_lt (by (with_reducible repeat (first | apply Kd.R_alloc | apply Kd.R_drewN | apply Kd.R_drew)); exact HO_6.out)) k_ hn_)), Or.elim hk_ (fun hs_ => Or.elim hs_ (fun hs_ => hs_.1.2.1) (fun hs_ => hs_.1.2.1)) (fun hn_ => (Kd.fresh' (Kd.R_lt (by (with_reducible repeat (first | apply Kd.R_alloc | apply Kd.R_drewN | apply Kd.R_drew)); exact HO_7.out)) k_ hn_)), Or.elim hk_ (fun hs_ => Or.elim hs_ (fun hs_ => hs_.1.2.2) (fun hs_ => hs_.1.2.2)) (fun hn_ => (Kd.freshB (g := gb149) (o := .cells #[.slice Ao147 x150000_2.length co147, .slice Ao148 x150001_2.length co148] 27 (0, 0)) (by (with_reducible repeat (first | refine blk_drewN ?_ _ | refine blk_drew ?_ | refine blk_alloc ?_ _)); exact BK149.out) k_ hn_)), Or.elim hk_ (fun hs_ => Or.elim hs_ (fun hs_ => hs_.2) (fun hs_ => hs_.2)) (fun hn_ => (Kd.freshB (g := gb193) (o := .cells #[.slice none 0 0, .slice none 0 0] 27 (0, 0)) (by (with_reducible repeat (first | refine blk_drewN ?_ _ | refine blk_drew ?_ | refine blk_alloc ?_ _)); exact BK193.out) k_ hn_))⟩)) (below_size (by repeat (first | (with_reducible first | exact HB.out | apply below_alloc | apply pw_below_drewN | apply below_drew1 | refine below_set ?_ GE149.out | refine below_set ?_ GE193.out) | exact HB.out))))
                  have n6_ := Aside0.mk (blk_below (g := gb149) (o := .cells #[.slice Ao147 x150000_2.length co147, .slice Ao148 x150001_2.length co148] 27 (0, 0)) (by (with_reducible repeat (first | refine blk_drewN ?_ _ | refine blk_drew ?_ | refine blk_alloc ?_ _)); exact BK149.out) hb)
                  have n7_ := Aside0.mk (blk_below (g := gb193) (o := .cells #[.slice none 0 0, .slice none 0 0] 27 (0, 0)) (by (with_reducible repeat (first | refine blk_drewN ?_ _ | refine blk_drew ?_ | refine blk_alloc ?_ _)); exact BK193.out) hb)
                  have n8_ := Aside0.mk (below_step (by repeat (first | (with_reducible first | exact HB.out | apply below_alloc | apply pw_below_drewN | apply below_drew1 | refine below_set ?_ GE149.out | refine below_set ?_ GE193.out) | exact HB.out)) hb)
                  clear HO_6
                  clear HO_7
                  clear HO_150000
                  clear HO_150001
                  clear BK149
                  clear BK193
                  clear HB
                  have HO_6 := n0_
                  have HO_7 := n1_
                  have HO_150000 := n2_
                  have HO_150001 := n3_
                  have HO188 := n4_
                  have HO191 := n5_
                  have BK149 := n6_
                  have BK193 := n7_
                  have HB := n8_
                  clear n0_ n1_ n2_ n3_ n4_ n5_ n6_ n7_ n8_
                  (try clear hb)
                  (try clear hb2)
                  (try clear hk)
                  (try clear hi)
                  (try clear ho0)
                  (try clear ho1)
                  refine hK.out _ _ ⟨(blk_cell BK149.out 0).trans rfl, (blk_cell BK149.out 1).trans rfl, HS2_⟩ (fun hHeld => ?_)
                  clear hK K
                  refine norm_ (a' := ?_) ?_ ?_
                  rotate_left
                  ·show Act.put _ (some 117) _ = _
                   simp only [Act.put, List.setIfInBounds_toArray, List.set_cons_zero, List.set_cons_succ, i64_w, i32_w]
                   rfl
                  refine pure_ (i := 6) (N := some 111) (v := ?_) (a' := ?_) #[true, true, true, true, true, true, true, false, false, true, false, false] rfl rfl (any_of HT_.out (by kernel_rfl)) (fun _ _ _ h => h) (Or.inl ⟨by rfl, ?_⟩) ?_ ?_
                  rotate_left
                  ·intro w'
                   go_simp
                   with_reducible rfl
                  rotate_left
                  ·simp only [Act.put, List.setIfInBounds_toArray, List.set_cons_zero, List.set_cons_succ, i64_w, i32_w]
                   rfl
                  refine pure_ (i := 7) (N := some 118) (v := ?_) (a' := ?_) #[true, true, true, true, true, true, true, true, false, true, false, false] rfl rfl (any_of HT_.out (by kernel_rfl)) (fun _ _ _ h => h) (Or.inl ⟨by rfl, ?_⟩) ?_ ?_
                  rotate_left
                  ·intro w'
                   go_simp
                   with_reducible rfl
                  rotate_left
                  ·simp only [Act.put, List.setIfInBounds_toArray, List.set_cons_zero, List.set_cons_succ, i64_w, i32_w]
                   rfl
                  refine pure_ (i := 8) (N := some 119) (v := ?_) (a' := ?_) #[true, true, true, true, true, true, true, true, true, true, false, false] rfl rfl (any_of HT_.out (by kernel_rfl)) (fun _ _ _ h => h) (Or.inl ⟨by rfl, ?_⟩) ?_ ?_
                  rotate_left
                  ·intro w'
                   go_simp
                   with_reducible rfl
                  rotate_left
                  ·simp only [Act.put, List.setIfInBounds_toArray, List.set_cons_zero, List.set_cons_succ, i64_w, i32_w]
                   rfl
                  exact norm_ (by simp only [putAll, Act.put, List.setIfInBounds_toArray, List.set_cons_zero, List.set_cons_succ]) (hCont (v187, v190, gb193) _ ⟨hHeld, (by (with_reducible repeat (first | apply Kd.V_alloc | apply Kd.V_drewN | apply Kd.V_drew)); exact HO188.out), (by (with_reducible repeat (first | apply Kd.V_alloc | apply Kd.V_drewN | apply Kd.V_drew)); exact HO191.out), (by (with_reducible repeat (first | apply Kd.V_alloc | apply Kd.V_drewN | apply Kd.V_drew)); exact Kd.V_mono HO_150000.out (fun _ hk => ⟨hk.1.1, ⟨hk.1.2.1, ⟨hk.1.2.2, hk.2⟩⟩⟩)), (by (with_reducible repeat (first | apply Kd.V_alloc | apply Kd.V_drewN | apply Kd.V_drew)); exact Kd.V_mono HO_150001.out (fun _ hk => ⟨hk.1.1, ⟨hk.1.2.1, ⟨hk.1.2.2, hk.2⟩⟩⟩)), (by (with_reducible repeat (first | apply Kd.R_alloc | apply Kd.R_drewN | apply Kd.R_drew)); exact HO_6.out), (by (with_reducible repeat (first | apply Kd.R_alloc | apply Kd.R_drewN | apply Kd.R_drew)); exact HO_7.out), (by (with_reducible repeat (first | refine blk_drewN ?_ _ | refine blk_drew ?_ | refine blk_alloc ?_ _)); exact BK149.out), (by (with_reducible repeat (first | refine blk_drewN ?_ _ | refine blk_drew ?_ | refine blk_alloc ?_ _)); exact BK193.out), GW193.out, GE193.out, NB149_193.out, NB193_149.out, (by repeat (first | (with_reducible first | exact HB.out | apply below_alloc | apply pw_below_drewN | apply below_drew1 | refine below_set ?_ GE149.out | refine below_set ?_ GE193.out) | exact HB.out))⟩)
                rintro ⟨v187, v190, gb193⟩ w153 ⟨hS_, h0_, h1_, h2_, h3_, h4_, h5_, h6_, h7_, h8_, h9_, h10_, h11_, h12_⟩
                have n0_ : Aside0 (Kd.V (Kd.slice 57 k57) 29 w153 w.heap.size (fun k_ => some k_ ≠ (.slice (some ad185) x6_1.length co150 : Value).ownBlock ∧ some k_ ≠ (.slice (some ad184) x7_1.length co146 : Value).ownBlock ∧ k_ ≠ gb149 ∧ k_ ≠ gb193) v187 t186) := ⟨h0_⟩
                have n1_ : Aside0 (Kd.V (Kd.int .i64) 3 w153 w.heap.size (fun k_ => some k_ ≠ (.slice (some ad185) x6_1.length co150 : Value).ownBlock ∧ some k_ ≠ (.slice (some ad184) x7_1.length co146 : Value).ownBlock ∧ k_ ≠ gb149 ∧ k_ ≠ gb193) v190 t189) := ⟨h1_⟩
                have n2_ : Aside0 (Kd.V (Kd.slice 57 k57) 29 w153 w.heap.size (fun k_ => some k_ ≠ (.slice (some ad185) x6_1.length co150 : Value).ownBlock ∧ some k_ ≠ (.slice (some ad184) x7_1.length co146 : Value).ownBlock ∧ k_ ≠ gb149 ∧ k_ ≠ gb193) (.slice Ao147 x150000_2.length co147) x150000_2) := ⟨h2_⟩
                have n3_ : Aside0 (Kd.V (Kd.int .i64) 3 w153 w.heap.size (fun k_ => some k_ ≠ (.slice (some ad185) x6_1.length co150 : Value).ownBlock ∧ some k_ ≠ (.slice (some ad184) x7_1.length co146 : Value).ownBlock ∧ k_ ≠ gb149 ∧ k_ ≠ gb193) (.slice Ao148 x150001_2.length co148) x150001_2) := ⟨h3_⟩
                have n4_ : Aside0 (Kd.R (Kd.int .i64) 3 w153 w.heap.size (fun _ => True) (.slice (some ad185) x6_1.length co150) x6_1) := ⟨h4_⟩
                have n5_ : Aside0 (Kd.R Kd.bool 4 w153 w.heap.size (fun _ => True) (.slice (some ad184) x7_1.length co146) x7_1) := ⟨h5_⟩
                have n6_ : Aside0 (w153.heap[gb149]? = some (.cells #[.slice Ao147 x150000_2.length co147, .slice Ao148 x150001_2.length co148] 27 (0, 0))) := ⟨h6_⟩
                have n7_ : Aside0 (w153.heap[gb193]? = some (.cells #[.slice none 0 0, .slice none 0 0] 27 (0, 0))) := ⟨h7_⟩
                have n8_ : Aside0 (w.heap.size ≤ gb193) := ⟨h8_⟩
                have n9_ : Aside0 (w.heap.size ≤ gb193) := ⟨h9_⟩
                have n10_ : Aside0 (gb149 ≠ gb193) := ⟨h10_⟩
                have n11_ : Aside0 (gb193 ≠ gb149) := ⟨h11_⟩
                have n12_ : Aside0 (Below w.heap.size w w153) := ⟨h12_⟩
                clear HO_6
                clear HO_7
                clear HO_150000
                clear HO_150001
                clear BK149
                clear HB
                clear h0_ h1_ h2_ h3_ h4_ h5_ h6_ h7_ h8_ h9_ h10_ h11_ h12_
                have HO188 := n0_
                have HO191 := n1_
                have HO_150000 := n2_
                have HO_150001 := n3_
                have HO_6 := n4_
                have HO_7 := n5_
                have BK149 := n6_
                have BK193 := n7_
                have GW193 := n8_
                have GE193 := n9_
                have NB149_193 := n10_
                have NB193_149 := n11_
                have HB := n12_
                clear n0_ n1_ n2_ n3_ n4_ n5_ n6_ n7_ n8_ n9_ n10_ n11_ n12_
                have hHeld : w153.cell? ⟨gb149, 0, none⟩ = some (.slice Ao147 x150000_2.length co147) ∧ w153.cell? ⟨gb149, 1, none⟩ = some (.slice Ao148 x150001_2.length co148) ∧ w153.cell? (ad185.add (x103_2).toNat) = some (.int .i64 (rd x6_1 x103_2)) := hS_
                obtain ⟨Ao154, co154, eo154⟩ := Kd.V_slice HO188.out
                (first | subst eo154 | (injection eo154 with f1_ f2_ f3_; have f4_ := f1_.symm; have f5_ := f3_.symm; clear f1_ f2_ f3_; subst f4_; subst f5_))
                obtain ⟨Ao156, co156, eo156⟩ := Kd.V_slice HO191.out
                (first | subst eo156 | (injection eo156 with f1_ f2_ f3_; have f4_ := f1_.symm; have f5_ := f3_.symm; clear f1_ f2_ f3_; subst f4_; subst f5_))
                refine norm_ (a' := ?_) ?_ ?_
                rotate_left
                ·simp only [putAll, Act.put, List.setIfInBounds_toArray, List.set_cons_zero, List.set_cons_succ]
                 rfl
                refine one_ (i := 10) (N := none) #[true, true, true, true, true, true, true, true, true, true, true, false] rfl rfl (one_of HT_.out (by kernel_rfl)) (by decide) (fun K hK => ?_)
                have hs155 : w153.cell? ⟨gb193, 0, none⟩ = some (.slice none 0 0) := (blk_cell BK193.out 0).trans rfl
                have hfs155 := blk_frozen BK193.out 0
                have hns155_0 := NB149_193.out
                have hms155_0 := NB193_149.out
                have hs157 : w153.cell? ⟨gb193, 1, none⟩ = some (.slice none 0 0) := (blk_cell BK193.out 1).trans rfl
                have hfs157 := blk_frozen BK193.out 1
                have hns157_0 := NB149_193.out
                have hms157_0 := NB193_149.out
                refine skip_ (w1 := ?_) (by rfl) rfl ?_ ?_
                rotate_left
                ·go_simp
                 rfl
                refine hK.out _ _ ⟨((cell_far (p := ⟨gb193, _, none⟩) NB149_193.out _).trans (((cell_far (p := ⟨gb193, _, none⟩) NB149_193.out _).trans (hHeld.1)))), ((cell_far (p := ⟨gb193, _, none⟩) NB149_193.out _).trans (((cell_far (p := ⟨gb193, _, none⟩) NB149_193.out _).trans (hHeld.2.1)))), ((cell_far (p := ⟨gb193, _, none⟩) (by first | exact Kd.own_blk (Kd.R_ne HO_6.out BK193.out (by decide)) | (rw [add_block]; exact Kd.own_blk (Kd.R_ne HO_6.out BK193.out (by decide))) | (show (Addr.add _ _).block ≠ _; rw [add_block]; exact Kd.own_blk (Kd.R_ne HO_6.out BK193.out (by decide))) | (dsimp only; exact Kd.own_blk (Kd.R_ne HO_6.out BK193.out (by decide)))) _).trans (((cell_far (p := ⟨gb193, _, none⟩) (by first | exact Kd.own_blk (Kd.R_ne HO_6.out BK193.out (by decide)) | (rw [add_block]; exact Kd.own_blk (Kd.R_ne HO_6.out BK193.out (by decide))) | (show (Addr.add _ _).block ≠ _; rw [add_block]; exact Kd.own_blk (Kd.R_ne HO_6.out BK193.out (by decide))) | (dsimp only; exact Kd.own_blk (Kd.R_ne HO_6.out BK193.out (by decide)))) _).trans (hHeld.2.2))))⟩ (fun hHeld => ?_)
                clear hK K
                refine pure_ (i := 11) (N := some 17) (v := ?_) (a' := ?_) #[true, true, true, true, true, true, true, true, true, true, true, true] rfl rfl (any_of HT_.out (by kernel_rfl)) (fun _ _ _ h => h) (Or.inl ⟨by rfl, ?_⟩) ?_ ?_
                rotate_left
                ·intro w'
                 go_simp
                 with_reducible rfl
                rotate_left
                ·simp only [Act.put, List.setIfInBounds_toArray, List.set_cons_zero, List.set_cons_succ, i64_w, i32_w]
                 rfl
                refine done_ (done_of HT_.out (by kernel_rfl)) ?_
                have hnb158 := NB193_149.out
                have hnc158 := NB149_193.out
                have hcz159_0 : w153.cell? ⟨gb193, 0, none⟩ = some (.slice none 0 0) := (blk_cell BK193.out 0).trans rfl
                have hcz159_1 : w153.cell? ⟨gb193, 1, none⟩ = some (.slice none 0 0) := (blk_cell BK193.out 1).trans rfl
                have hfz159_0 := blk_frozen BK193.out 0
                have hfz159_1 := blk_frozen BK193.out 1
                have hcz160_0 : w153.cell? ⟨gb149, 0, none⟩ = some (.slice Ao147 x150000_2.length co147) := (blk_cell BK149.out 0).trans rfl
                have hcz160_1 : w153.cell? ⟨gb149, 1, none⟩ = some (.slice Ao148 x150001_2.length co148) := (blk_cell BK149.out 1).trans rfl
                have hfz160_0 := blk_frozen BK149.out 0
                have hfz160_1 := blk_frozen BK149.out 1
                try go_wp2
                go_roundg k2
                case measure => have := HK1.out; have := HK2.out; omega
                case rel => exact ⟨(wrap64 (x103_2 + 1)), (t186), (t189), (.slice Ao154 t186.length co154), (.slice Ao156 t189.length co156), (by first | rfl | (simp; done) | (simp [*]; done)), H', ⟨by have := HK1.out; have := HK2.out; omega⟩, ⟨by (with_reducible repeat (first | apply Kd.R_alloc | apply Kd.R_drewN | apply Kd.R_drew)); exact Kd.R_mono (Kd.R_far (p := ⟨gb149, 1, none⟩) (Kd.R_far (p := ⟨gb149, 0, none⟩) (Kd.R_far (p := ⟨gb193, 1, none⟩) (Kd.R_far (p := ⟨gb193, 0, none⟩) (Kd.R_types (Kd.R_types HO_6.out BK193.out (by decide)) BK149.out (by decide)) (fun _ hk => hk.1.2) (.slice Ao154 t186.length co154)) (fun _ hk => hk.1.2) (.slice Ao156 t189.length co156)) (fun _ hk => hk.2) (.slice Ao154 t186.length co154)) (fun _ hk => hk.2) (.slice Ao156 t189.length co156)) (fun _ hk => trivial)⟩, ⟨by (with_reducible repeat (first | apply Kd.R_alloc | apply Kd.R_drewN | apply Kd.R_drew)); exact Kd.R_mono (Kd.R_far (p := ⟨gb149, 1, none⟩) (Kd.R_far (p := ⟨gb149, 0, none⟩) (Kd.R_far (p := ⟨gb193, 1, none⟩) (Kd.R_far (p := ⟨gb193, 0, none⟩) (Kd.R_types (Kd.R_types HO_7.out BK193.out (by decide)) BK149.out (by decide)) (fun _ hk => hk.1.2) (.slice Ao154 t186.length co154)) (fun _ hk => hk.1.2) (.slice Ao156 t189.length co156)) (fun _ hk => hk.2) (.slice Ao154 t186.length co154)) (fun _ hk => hk.2) (.slice Ao156 t189.length co156)) (fun _ hk => trivial)⟩, ⟨by (with_reducible repeat (first | apply Kd.V_alloc | apply Kd.V_drewN | apply Kd.V_drew)); exact Kd.V_mono (Kd.V_far (p := ⟨gb149, 1, none⟩) (Kd.V_far (p := ⟨gb149, 0, none⟩) (Kd.V_far (p := ⟨gb193, 1, none⟩) (Kd.V_far (p := ⟨gb193, 0, none⟩) (Kd.V_mono (Kd.V_mono HO188.out (fun k_ hk => (⟨hk, hk.2.2.2⟩ : _ ∧ k_ ≠ gb193))) (fun k_ hk => (⟨hk, hk.1.2.2.1⟩ : _ ∧ k_ ≠ gb149))) (fun _ hk => hk.1.2) (.slice Ao154 t186.length co154)) (fun _ hk => hk.1.2) (.slice Ao156 t189.length co156)) (fun _ hk => hk.2) (.slice Ao154 t186.length co154)) (fun _ hk => hk.2) (.slice Ao156 t189.length co156)) (fun _ hk => ⟨hk.1.1.1, ⟨hk.1.1.2.1, hk.1.1.2.2.1⟩⟩)⟩, ⟨by (with_reducible repeat (first | apply Kd.V_alloc | apply Kd.V_drewN | apply Kd.V_drew)); exact Kd.V_mono (Kd.V_far (p := ⟨gb149, 1, none⟩) (Kd.V_far (p := ⟨gb149, 0, none⟩) (Kd.V_far (p := ⟨gb193, 1, none⟩) (Kd.V_far (p := ⟨gb193, 0, none⟩) (Kd.V_mono (Kd.V_mono HO191.out (fun k_ hk => (⟨hk, hk.2.2.2⟩ : _ ∧ k_ ≠ gb193))) (fun k_ hk => (⟨hk, hk.1.2.2.1⟩ : _ ∧ k_ ≠ gb149))) (fun _ hk => hk.1.2) (.slice Ao154 t186.length co154)) (fun _ hk => hk.1.2) (.slice Ao156 t189.length co156)) (fun _ hk => hk.2) (.slice Ao154 t186.length co154)) (fun _ hk => hk.2) (.slice Ao156 t189.length co156)) (fun _ hk => ⟨hk.1.1.1, ⟨hk.1.1.2.1, hk.1.1.2.2.1⟩⟩)⟩, ⟨by (with_reducible repeat (first | refine blk_drewN ?_ _ | refine blk_drew ?_ | refine blk_alloc ?_ _)); refine blk_put (cs := #[.slice Ao154 t186.length co154, .slice Ao148 x150001_2.length co148]) ?_ 1 _ rfl; (with_reducible repeat (first | refine blk_drewN ?_ _ | refine blk_drew ?_ | refine blk_alloc ?_ _)); refine blk_put (cs := #[.slice Ao147 x150000_2.length co147, .slice Ao148 x150001_2.length co148]) ?_ 0 _ rfl; (with_reducible repeat (first | refine blk_drewN ?_ _ | refine blk_drew ?_ | refine blk_alloc ?_ _)); refine blk_far ?_ NB149_193.out _; (with_reducible repeat (first | refine blk_drewN ?_ _ | refine blk_drew ?_ | refine blk_alloc ?_ _)); refine blk_far ?_ NB149_193.out _; (with_reducible repeat (first | refine blk_drewN ?_ _ | refine blk_drew ?_ | refine blk_alloc ?_ _)); exact BK149.out⟩, ⟨by repeat (first | (with_reducible first | exact HB.out | apply below_alloc | apply pw_below_drewN | apply below_drew1 | refine below_set ?_ GE149.out | refine below_set ?_ GE193.out) | exact HB.out)⟩⟩
               ·rw [if_neg c145] at H
                have c145b0 : (t192 == 0) = false := beq_eq_false_iff_ne.mpr c145
                have c145b1 : (t192 != 0) = true := bne_iff_ne.mpr c145
                exact absurd H (by first | decide)
              ·rw [if_neg c143] at H
               exact absurd H (by simp)
            ·rw [if_neg c139] at H
             exact absurd H (by simp)
           ·rw [if_neg c138] at H
            exact absurd H (by simp)
          ·rw [if_neg c137] at H
           have c137b0 : decide (x103_2 < (l0.length : Int)) = false := decide_eq_false c137
           clear c137
           by_cases c176 : (wrap64 ((x150000_2.length : Int) + (x150001_2.length : Int))) = 0
           ·rw [if_pos c176] at H
            have c176b0 : ((wrap64 ((x150000_2.length : Int) + (x150001_2.length : Int))) == 0) = true := beq_iff_eq.mpr c176
            have c176b1 : ((wrap64 ((x150000_2.length : Int) + (x150001_2.length : Int))) != 0) = false := bne_eq_false_iff_eq.mpr c176
            clear c176
            replace H := Option.bind_eq_some_iff.mp H
            obtain ⟨t183, A1770, H⟩ := H
            replace H : (some t183) = some true := H
            have A177 := Aside0.mk A1770
            clear A1770
            obtain rfl := Option.some.inj H
            have hcz178_0 : wr.cell? ⟨gb149, 0, none⟩ = some (u150000) := (blk_cell BK149.out 0).trans rfl
            have hcz178_1 : wr.cell? ⟨gb149, 1, none⟩ = some (u150001) := (blk_cell BK149.out 1).trans rfl
            have hfz178_0 := blk_frozen BK149.out 0
            have hfz178_1 := blk_frozen BK149.out 1
            obtain ⟨Ao179, co179, eo179⟩ := Kd.V_slice HO_150000.out
            subst eo179
            obtain ⟨Ao180, co180, eo180⟩ := Kd.V_slice HO_150001.out
            subst eo180
            go_wp2_with (first | (go_at_call 6; (with_reducible refine (curtilagelaw05_awake.calls k2  true _ A177.out).mono ?_); rintro e w181 ⟨rfl, hb⟩; have n0_ := Aside0.mk (Kd.R_below (by (with_reducible repeat (first | apply Kd.R_alloc | apply Kd.R_drewN | apply Kd.R_drew)); exact HO_6.out) hb); have n1_ := Aside0.mk (Kd.R_below (by (with_reducible repeat (first | apply Kd.R_alloc | apply Kd.R_drewN | apply Kd.R_drew)); exact HO_7.out) hb); have n2_ := Aside0.mk (Kd.V_below (by (with_reducible repeat (first | apply Kd.V_alloc | apply Kd.V_drewN | apply Kd.V_drew)); exact HO_150000.out) hb); have n3_ := Aside0.mk (Kd.V_below (by (with_reducible repeat (first | apply Kd.V_alloc | apply Kd.V_drewN | apply Kd.V_drew)); exact HO_150001.out) hb); have n4_ := Aside0.mk (blk_below (g := gb149) (o := .cells #[.slice Ao179 x150000_2.length co179, .slice Ao180 x150001_2.length co180] 27 (0, 0)) (by (with_reducible repeat (first | refine blk_drewN ?_ _ | refine blk_drew ?_ | refine blk_alloc ?_ _)); exact BK149.out) hb); have n5_ := Aside0.mk (below_step (by repeat (first | (with_reducible first | exact HB.out | apply below_alloc | apply pw_below_drewN | apply below_drew1 | refine below_set ?_ GE149.out) | exact HB.out)) hb); clear HO_6; clear HO_7; clear HO_150000; clear HO_150001; clear BK149; clear HB; have HO_6 := n0_; have HO_7 := n1_; have HO_150000 := n2_; have HO_150001 := n3_; have BK149 := n4_; have HB := n5_; clear n0_ n1_ n2_ n3_ n4_ n5_; (try clear hb); (try clear hb2); (try clear hk); (try clear hi)))
            go_ret
            exact ⟨by first | rfl | (simp [errW_none, errW_some] <;> rfl) | (simp [*, errW_none, errW_some] <;> rfl), by repeat (first | (with_reducible first | exact HB.out | apply below_alloc | apply pw_below_drewN | apply below_drew1 | refine below_set ?_ GE149.out) | exact HB.out)⟩
           ·rw [if_neg c176] at H
            have c176b0 : ((wrap64 ((x150000_2.length : Int) + (x150001_2.length : Int))) == 0) = false := beq_eq_false_iff_ne.mpr c176
            have c176b1 : ((wrap64 ((x150000_2.length : Int) + (x150001_2.length : Int))) != 0) = true := bne_iff_ne.mpr c176
            exact absurd H (by first | decide)
    ·rw [if_neg c8] at H
     exact absurd H (by simp)
   ·rw [if_neg c7] at H
    exact absurd H (by simp)
  ·rw [if_neg c6] at H
   exact absurd H (by simp)

end Go.Proofs.Ytfoagjdcgipcaaa.X
