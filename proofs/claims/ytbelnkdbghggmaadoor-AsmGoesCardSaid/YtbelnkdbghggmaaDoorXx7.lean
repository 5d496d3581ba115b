/- Walks of Go functions: each proves that the call answers what the Lean function of its name computes, wherever that is told; written by a program of this work out of the translation. -/
import Derived.Test.YtbelnkdbghggmaaDoorXx0
import Derived.Test.YtbelnkdbghggmaaDoorRa
import Derived.Test.YtbelnkdbghggmaaDoorPa
import Derived.Test.YtbelnkdbghggmaaDoorFi
import Derived.Test.YtbelnkdbghggmaaDoorGd
import Derived.Test.YtbelnkdbghggmaaDoorIh
import Derived.Test.YtbelnkdbghggmaaDoorIb
import Derived.Test.YtbelnkdbghggmaaDoorXx2
import Derived.Test.YtbelnkdbghggmaaDoorXx6
namespace Go.Proofs.YtbelnkdbghggmaaDoor.X
open Go.RowKit Go.Proofs.YtbelnkdbghggmaaDoorW.PrintWords Go.Proofs.YtbelnkdbghggmaaDoorW.PrintLast

set_option linter.unusedVariables false
set_option linter.unusedSimpArgs false

attribute [local go_sem high] eqA26
/-! ### curtilagelaw10_AsmGoes: function 4 -/
mutual
def curtilagelaw10_AsmGoes.l0 : Nat → List (S28) → List Int → Int → List (S28) → Int → Int → Option (Bool)
  | 0, _, _, _, _, _, _ => none
  | k + 1, x0, x3, x6, x34, x35, x36 => if x36 < x35 then (if 0 ≤ x36 then (if x36 < (x34.length : Int) then (if ((rd_T28 x34 x36).f0).toList = ([] : List UInt8) then (if x6 ≥ (x3.length : Int) then (some false) else (if 0 ≤ x6 then (if x6 < (x3.length : Int) then ((curtilageref08_Decode.f k (rd x3 x6)).bind fun bt219 => (if bt219.2.2.2.2.2 = true then (if ((rd_T28 x34 x36).f2).toList = ([] : List UInt8) then (if (!(bt219.1 == ((rd_T28 x34 x36).f1.f0)) || (!(bt219.2.1 == ((rd_T28 x34 x36).f1.f1)) || (!(bt219.2.2.1 == ((rd_T28 x34 x36).f1.f2)) || (!(bt219.2.2.2.1 == ((rd_T28 x34 x36).f1.f3)) || (!(bt219.2.2.2.2.1 == ((rd_T28 x34 x36).f1.f4))))))) = true then (some false) else (curtilagelaw10_AsmGoes.l0 k x0 x3 (wrap64 (x6 + 1)) x34 x35 (wrap64 (x36 + 1)))) else ((asm_Find.f x0 ((rd_T28 x34 x36).f2)).bind fun bt226 => (if bt219.1 = 1 then (curtilagelaw10_AsmGoes.j1 k x0 x3 x6 bt226.1 bt226.2 (wrap64 ((wrap64 (bt219.2.2.2.2.1)) - (wrap64 ((rd_T28 x34 x36).f1.f4)))) x34 x35 x36 ((rd_T28 x34 x36).f0) ((rd_T28 x34 x36).f1.f0) ((rd_T28 x34 x36).f1.f1) ((rd_T28 x34 x36).f1.f2) ((rd_T28 x34 x36).f1.f3) ((rd_T28 x34 x36).f1.f4) ((rd_T28 x34 x36).f2) bt219.1 bt219.2.1 bt219.2.2.1 bt219.2.2.2.1 bt219.2.2.2.2.1) else (curtilagelaw10_AsmGoes.j1 k x0 x3 x6 bt226.1 bt226.2 (wrap64 ((wrap64 (x6 + 1)) + (wrap64 (bt219.2.2.2.2.1)))) x34 x35 x36 ((rd_T28 x34 x36).f0) ((rd_T28 x34 x36).f1.f0) ((rd_T28 x34 x36).f1.f1) ((rd_T28 x34 x36).f1.f2) ((rd_T28 x34 x36).f1.f3) ((rd_T28 x34 x36).f1.f4) ((rd_T28 x34 x36).f2) bt219.1 bt219.2.1 bt219.2.2.1 bt219.2.2.2.1 bt219.2.2.2.2.1)))) else (some false))) else (none)) else (none))) else ((asm_Find.f x0 ((rd_T28 x34 x36).f0)).bind fun bt216 => (if bt216.2 = true then (if bt216.1 = x6 then (curtilagelaw10_AsmGoes.l0 k x0 x3 x6 x34 x35 (wrap64 (x36 + 1))) else (some false)) else (some false)))) else (none)) else (none)) else (if x6 = (x3.length : Int) then ((curtilagelaw10_awake.f).bind fun t213 => (some t213)) else (some false))
def curtilagelaw10_AsmGoes.j1 : Nat → List (S28) → List Int → Int → Int → Bool → Int → List (S28) → Int → Int → ByteArray → Int → Int → Int → Int → Int → ByteArray → Int → Int → Int → Int → Int → Option (Bool)
  | 0, _, _, _, _, _, _, _, _, _, _, _, _, _, _, _, _, _, _, _, _, _ => none
  | k + 1, x0, x3, x6, x13, x14, x15, x34, x35, x36, x216000, x216001, x216002, x216003, x216004, x216005, x216006, x226000, x226001, x226002, x226003, x226004 => if x14 = true then (curtilagelaw10_AsmGoes.j2 k x0 x3 x6 x34 x35 x36 (x15 != x13) x216000 x216001 x216002 x216003 x216004 x216005 x216006 x226000 x226001 x226002 x226003 x226004) else (curtilagelaw10_AsmGoes.j2 k x0 x3 x6 x34 x35 x36 true x216000 x216001 x216002 x216003 x216004 x216005 x216006 x226000 x226001 x226002 x226003 x226004)
def curtilagelaw10_AsmGoes.j2 : Nat → List (S28) → List Int → Int → List (S28) → Int → Int → Bool → ByteArray → Int → Int → Int → Int → Int → ByteArray → Int → Int → Int → Int → Int → Option (Bool)
  | 0, _, _, _, _, _, _, _, _, _, _, _, _, _, _, _, _, _, _, _ => none
  | k + 1, x0, x3, x6, x34, x35, x36, x104, x216000, x216001, x216002, x216003, x216004, x216005, x216006, x226000, x226001, x226002, x226003, x226004 => if x104 = true then (some false) else (if (!(x226000 == x216001) || (!(x226001 == x216002) || (!(x226002 == x216003) || (!(x226003 == x216004))))) = true then (some false) else (curtilagelaw10_AsmGoes.l0 k x0 x3 (wrap64 (x6 + 1)) x34 x35 (wrap64 (x36 + 1))))
end
def curtilagelaw10_AsmGoes.f (k : Nat) (l0 : List (S28)) : Option (Bool) := (curtilagelaw10_few.f k l0).bind fun t205 => (if t205 = true then ((asm_Put.f l0).bind fun bt207 => (if bt207.2.2 = 0 then (curtilagelaw10_AsmGoes.l0 k l0 bt207.1 0 l0 (l0.length : Int) 0) else (if (bt207.1.length : Int) = 0 then ((curtilagelaw10_awake.f).bind fun t212 => (some t212)) else (some false)))) else ((curtilagelaw10_awake.f).bind fun t206 => (some t206)))
theorem curtilagelaw10_AsmGoes.mono_l : ∀ k, (∀ y0 y1 y2 y3 y4 y5, LeO (curtilagelaw10_AsmGoes.l0 k y0 y1 y2 y3 y4 y5) (curtilagelaw10_AsmGoes.l0 (k + 1) y0 y1 y2 y3 y4 y5)) ∧ (∀ y0 y1 y2 y3 y4 y5 y6 y7 y8 y9 y10 y11 y12 y13 y14 y15 y16 y17 y18 y19 y20, LeO (curtilagelaw10_AsmGoes.j1 k y0 y1 y2 y3 y4 y5 y6 y7 y8 y9 y10 y11 y12 y13 y14 y15 y16 y17 y18 y19 y20) (curtilagelaw10_AsmGoes.j1 (k + 1) y0 y1 y2 y3 y4 y5 y6 y7 y8 y9 y10 y11 y12 y13 y14 y15 y16 y17 y18 y19 y20)) ∧ (∀ y0 y1 y2 y3 y4 y5 y6 y7 y8 y9 y10 y11 y12 y13 y14 y15 y16 y17 y18, LeO (curtilagelaw10_AsmGoes.j2 k y0 y1 y2 y3 y4 y5 y6 y7 y8 y9 y10 y11 y12 y13 y14 y15 y16 y17 y18) (curtilagelaw10_AsmGoes.j2 (k + 1) y0 y1 y2 y3 y4 y5 y6 y7 y8 y9 y10 y11 y12 y13 y14 y15 y16 y17 y18))
  | 0 => ⟨fun _ _ _ _ _ _ r h => by simp [curtilagelaw10_AsmGoes.l0] at h, fun _ _ _ _ _ _ _ _ _ _ _ _ _ _ _ _ _ _ _ _ _ r h => by simp [curtilagelaw10_AsmGoes.j1] at h, fun _ _ _ _ _ _ _ _ _ _ _ _ _ _ _ _ _ _ _ r h => by simp [curtilagelaw10_AsmGoes.j2] at h⟩
  | k + 1 => by
    obtain ⟨ih0, ih1, ih2⟩ := curtilagelaw10_AsmGoes.mono_l k
    refine ⟨?_, ?_, ?_⟩
    · intro y0 y1 y2 y3 y4 y5
      unfold curtilagelaw10_AsmGoes.l0
      repeat' first
      | (with_reducible exact ih0 _ _ _ _ _ _)
      | (with_reducible exact ih1 _ _ _ _ _ _ _ _ _ _ _ _ _ _ _ _ _ _ _ _ _)
      | (with_reducible exact ih2 _ _ _ _ _ _ _ _ _ _ _ _ _ _ _ _ _ _ _)
      | (with_reducible exact curtilagelaw10_few.mono _ _)
      | (with_reducible exact curtilageref08_Decode.mono _ _)
      | (with_reducible exact LeO.refl _)
      | (with_reducible exact LeO.none _)
      | (with_reducible refine LeO.ite ?_ ?_)
      | (with_reducible refine LeO.bind ?_ (fun _ => ?_))
      | exact ih0 _ _ _ _ _ _
      | exact ih1 _ _ _ _ _ _ _ _ _ _ _ _ _ _ _ _ _ _ _ _ _
      | exact ih2 _ _ _ _ _ _ _ _ _ _ _ _ _ _ _ _ _ _ _
      | exact curtilagelaw10_few.mono _ _
      | exact curtilageref08_Decode.mono _ _
      | exact LeO.none _
      | refine LeO.ite ?_ ?_
      | refine LeO.bind ?_ (fun _ => ?_)
    · intro y0 y1 y2 y3 y4 y5 y6 y7 y8 y9 y10 y11 y12 y13 y14 y15 y16 y17 y18 y19 y20
      unfold curtilagelaw10_AsmGoes.j1
      repeat' first
      | (with_reducible exact ih0 _ _ _ _ _ _)
      | (with_reducible exact ih1 _ _ _ _ _ _ _ _ _ _ _ _ _ _ _ _ _ _ _ _ _)
      | (with_reducible exact ih2 _ _ _ _ _ _ _ _ _ _ _ _ _ _ _ _ _ _ _)
      | (with_reducible exact curtilagelaw10_few.mono _ _)
      | (with_reducible exact curtilageref08_Decode.mono _ _)
      | (with_reducible exact LeO.refl _)
      | (with_reducible exact LeO.none _)
      | (with_reducible refine LeO.ite ?_ ?_)
      | (with_reducible refine LeO.bind ?_ (fun _ => ?_))
      | exact ih0 _ _ _ _ _ _
      | exact ih1 _ _ _ _ _ _ _ _ _ _ _ _ _ _ _ _ _ _ _ _ _
      | exact ih2 _ _ _ _ _ _ _ _ _ _ _ _ _ _ _ _ _ _ _
      | exact curtilagelaw10_few.mono _ _
      | exact curtilageref08_Decode.mono _ _
      | exact LeO.none _
      | refine LeO.ite ?_ ?_
      | refine LeO.bind ?_ (fun _ => ?_)
    · intro y0 y1 y2 y3 y4 y5 y6 y7 y8 y9 y10 y11 y12 y13 y14 y15 y16 y17 y18
      unfold curtilagelaw10_AsmGoes.j2
      repeat' first
      | (with_reducible exact ih0 _ _ _ _ _ _)
      | (with_reducible exact ih1 _ _ _ _ _ _ _ _ _ _ _ _ _ _ _ _ _ _ _ _ _)
      | (with_reducible exact ih2 _ _ _ _ _ _ _ _ _ _ _ _ _ _ _ _ _ _ _)
      | (with_reducible exact curtilagelaw10_few.mono _ _)
      | (with_reducible exact curtilageref08_Decode.mono _ _)
      | (with_reducible exact LeO.refl _)
      | (with_reducible exact LeO.none _)
      | (with_reducible refine LeO.ite ?_ ?_)
      | (with_reducible refine LeO.bind ?_ (fun _ => ?_))
      | exact ih0 _ _ _ _ _ _
      | exact ih1 _ _ _ _ _ _ _ _ _ _ _ _ _ _ _ _ _ _ _ _ _
      | exact ih2 _ _ _ _ _ _ _ _ _ _ _ _ _ _ _ _ _ _ _
      | exact curtilagelaw10_few.mono _ _
      | exact curtilageref08_Decode.mono _ _
      | exact LeO.none _
      | refine LeO.ite ?_ ?_
      | refine LeO.bind ?_ (fun _ => ?_)
set_option maxHeartbeats 8000000 in
set_option maxRecDepth 100000 in
theorem curtilagelaw10_AsmGoes.calls (k : Nat) (A0 : Option Addr) (c0 : Nat) (l0 : List (S28)) (r : Bool) (w : World) (HTAB0 : Env w) (hr0 : Kd.C k28 w A0 l0.length l0) (hc0 : l0.length ≤ c0) (h : curtilagelaw10_AsmGoes.f k l0 = some r) :
    Calls Tryd.prog 4 #[.slice A0 l0.length c0] w fun e w' => e = .returned (.bool r) ∧ Below w.heap.size w w' := by
  have HTAB := Aside0.mk HTAB0
  clear HTAB0
  have hu28 := Tryd.underlying28
  have hu26 := Tryd.underlying26
  have HR0 := Aside0.mk hr0
  have HC0 := Aside0.mk hc0
  clear hr0 hc0
  have HB := Aside0.mk (Below.refl w.heap.size w)
  have H : ((curtilagelaw10_few.f k l0).bind fun t205 => (if t205 = true then ((asm_Put.f l0).bind fun bt207 => (if bt207.2.2 = 0 then (curtilagelaw10_AsmGoes.l0 k l0 bt207.1 0 l0 (l0.length : Int) 0) else (if (bt207.1.length : Int) = 0 then ((curtilagelaw10_awake.f).bind fun t212 => (some t212)) else (some false)))) else ((curtilagelaw10_awake.f).bind fun t206 => (some t206)))) = some r := h
  clear h
  replace H := Option.bind_eq_some_iff.mp H
  obtain ⟨t205, A20, H⟩ := H
  replace H : (if t205 = true then ((asm_Put.f l0).bind fun bt207 => (if bt207.2.2 = 0 then (curtilagelaw10_AsmGoes.l0 k l0 bt207.1 0 l0 (l0.length : Int) 0) else (if (bt207.1.length : Int) = 0 then ((curtilagelaw10_awake.f).bind fun t212 => (some t212)) else (some false)))) else ((curtilagelaw10_awake.f).bind fun t206 => (some t206))) = some r := H
  have A2 := Aside0.mk A20
  clear A20
  by_cases c3 : t205 = true
  · subst c3
    have H1 : ((asm_Put.f l0).bind fun bt207 => (if bt207.2.2 = 0 then (curtilagelaw10_AsmGoes.l0 k l0 bt207.1 0 l0 (l0.length : Int) 0) else (if (bt207.1.length : Int) = 0 then ((curtilagelaw10_awake.f).bind fun t212 => (some t212)) else (some false)))) = some r := by rw [if_pos rfl] at H; exact H
    clear H
    have H := H1
    clear H1
    replace H := Option.bind_eq_some_iff.mp H
    obtain ⟨⟨t207, t208, t209⟩, A40, H⟩ := H
    replace H : (if t209 = 0 then (curtilagelaw10_AsmGoes.l0 k l0 t207 0 l0 (l0.length : Int) 0) else (if (t207.length : Int) = 0 then ((curtilagelaw10_awake.f).bind fun t212 => (some t212)) else (some false))) = some r := H
    have A4 := Aside0.mk A40
    clear A40
    by_cases c5 : t209 = 0
    · rw [if_pos c5] at H
      have c5b0 : (t209 == 0) = true := beq_iff_eq.mpr c5
      have c5b1 : (t209 != 0) = false := bne_eq_false_iff_eq.mpr c5
      clear c5
      have H' := Aside0.mk H
      clear H
      go_enter Tryd.func4, Tryd.ntmps4
      go_wp2_with (first | ((with_reducible refine gate_callee (f := 5) rfl ?_); refine goesL_ (some 17) rfl rfl Tryd.func5 (by kernel_rfl) rfl #[.slice A0 l0.length c0] rfl (by (try simp only [List.map_toArray, List.map_cons, List.map_nil]); first | done | rfl | (simp only [List.length_drop, List.length_take]; rfl)) ?_; (with_reducible refine (curtilagelaw10_few.calls k _ _ l0 true _ ?side1 ?side2 A2.out).mono ?_); (case side1 => repeat (first | exact HR0.out | (with_reducible refine Kd.C_alloc ?_ _) | (with_reducible refine Kd.C_drewN ?_ _) | (with_reducible refine Kd.C_drew ?_))); (case side2 => exact HC0.out); rintro e w6 ⟨rfl, hb⟩; refine ⟨_, rfl, ?_⟩; have n0_ := Aside0.mk (below_step (by repeat (first | (with_reducible first | exact HB.out | apply below_alloc | apply pw_below_drewN | apply below_drew1) | exact HB.out)) hb); clear HB; have HB := n0_; clear n0_; (try clear hb); (try clear hb2); (try clear hk); (try clear hi)) | ((with_reducible refine gate_callee (f := 7) rfl ?_); refine goesL_ (some 22) rfl rfl Tryd.func7 (by kernel_rfl) rfl #[.slice A0 l0.length c0] rfl (by (try simp only [List.map_toArray, List.map_cons, List.map_nil]); first | done | rfl | (simp only [List.length_drop, List.length_take]; rfl)) ?_; (with_reducible refine (asm_Put.calls _ _ l0 t207 t208 t209 _ ?side1 ?side2 A4.out).mono ?_); (case side1 => repeat (first | exact (Kd.C_below HR0.out HB.out) | (with_reducible refine Kd.C_alloc ?_ _) | (with_reducible refine Kd.C_drewN ?_ _) | (with_reducible refine Kd.C_drew ?_))); (case side2 => exact HC0.out); rintro e w7 ⟨v210, rfl, ho0, hb⟩; refine ⟨_, rfl, ?_⟩; have n0_ := Aside0.mk (Kd.R_lower ho0 (below_size (by repeat (first | (with_reducible first | exact HB.out | apply below_alloc | apply pw_below_drewN | apply below_drew1) | exact HB.out)))); have n1_ := Aside0.mk (below_step (by repeat (first | (with_reducible first | exact HB.out | apply below_alloc | apply pw_below_drewN | apply below_drew1) | exact HB.out)) hb); clear HB; have HO211 := n0_; have HB := n1_; clear n0_ n1_; (try clear hb); (try clear hb2); (try clear hk); (try clear hi); (try clear ho0)))
      go_loopg [6, 36] k (fun kq v6 v36 w' => ∃ (x6_1 : Int) (x36_1 : Int), v6 = .int .i64 x6_1 ∧ v36 = .int .i64 x36_1 ∧ Aside0 (curtilagelaw10_AsmGoes.l0 kq l0 t207 x6_1 l0 (l0.length : Int) x36_1 = some r) ∧ Aside0 (kq ≤ k) ∧ Aside0 (Kd.R (Kd.int .u64) 40 w' w.heap.size (fun _ => True) v210 t207) ∧ Aside0 (Below w.heap.size w w'))
      case atStart => exact ⟨(0), (0), (by first | rfl | (simp; done) | (simp [*]; done)), (by first | rfl | (simp; done) | (simp [*]; done)), H', ⟨Nat.le_refl _⟩, ⟨by (with_reducible repeat (first | apply Kd.R_alloc | apply Kd.R_drewN | apply Kd.R_drew)); exact HO211.out⟩, ⟨by repeat (first | (with_reducible first | exact HB.out | apply below_alloc | apply pw_below_drewN | apply below_drew1) | exact HB.out)⟩⟩
      case round =>
        clear H'
        try clear p2
        try clear c3
        try clear c4
        try clear c5
        try clear c5b0
        try clear c5b1
        try clear c7
        obtain ⟨x6_1, x36_1, rfl, rfl, HA, HK1, HO_3, HB⟩ := hrel
        cases gk with
        | zero => exact absurd HA.out (by simp [curtilagelaw10_AsmGoes.l0])
        | succ k1 =>
          have H := HA.out
          clear HA
          simp only [curtilagelaw10_AsmGoes.l0] at H
          by_cases c8 : x36_1 < (l0.length : Int)
          · rw [if_pos c8] at H
            have c8b0 : decide (x36_1 < (l0.length : Int)) = true := decide_eq_true c8
            clear c8
            by_cases c9 : 0 ≤ x36_1
            · rw [if_pos c9] at H
              have c9b0 : decide (0 ≤ x36_1) = true := decide_eq_true c9
              clear c9
              by_cases c10 : x36_1 < (l0.length : Int)
              · rw [if_pos c10] at H
                have c10b0 : decide (x36_1 < (l0.length : Int)) = true := decide_eq_true c10
                clear c10
                by_cases c11 : ((rd_T28 l0 x36_1).f0).toList = ([] : List UInt8)
                · rw [if_pos c11] at H
                  have c11b0 : (((rd_T28 l0 x36_1).f0).toList == ([] : List UInt8)) = true := beq_iff_eq.mpr c11
                  have c11b1 : (((rd_T28 l0 x36_1).f0).toList != ([] : List UInt8)) = false := bne_eq_false_iff_eq.mpr c11
                  clear c11
                  by_cases c12 : x6_1 ≥ (t207.length : Int)
                  · rw [if_pos c12] at H
                    have c12b0 : decide ((t207.length : Int) ≤ x6_1) = true := decide_eq_true c12
                    clear c12
                    obtain rfl := Option.some.inj H
                    have p214 : 0 ≤ (x36_1 : Int) := of_decide_eq_true (by first | (with_reducible assumption) | assumption)
                    have q214 : x36_1 < (l0.length : Int) := of_decide_eq_true (by first | (with_reducible assumption) | assumption)
                    obtain ⟨ad214, e214, hx214_0, hx214_1, hx214_2, hx214_3, hx214_4, hx214_5, hx214_6⟩ := at_T28 HR0.out x36_1 p214 q214
                    cases e214
                    replace hx214_0 := (HB.out.cell (World.block_lt_of_cell? w _ hx214_0)).trans hx214_0
                    replace hx214_1 := (HB.out.cell (World.block_lt_of_cell? w _ hx214_1)).trans hx214_1
                    replace hx214_2 := (HB.out.cell (World.block_lt_of_cell? w _ hx214_2)).trans hx214_2
                    replace hx214_3 := (HB.out.cell (World.block_lt_of_cell? w _ hx214_3)).trans hx214_3
                    replace hx214_4 := (HB.out.cell (World.block_lt_of_cell? w _ hx214_4)).trans hx214_4
                    replace hx214_5 := (HB.out.cell (World.block_lt_of_cell? w _ hx214_5)).trans hx214_5
                    replace hx214_6 := (HB.out.cell (World.block_lt_of_cell? w _ hx214_6)).trans hx214_6
                    replace p214 := eq_true p214
                    replace q214 := eq_true q214
                    go_wp2_with (first | ((with_reducible refine gate_dst (N := 8) rfl ?_); refine box_event ?hg (N := 8) ?hd (cs := #[.string (⟨#[]⟩ : ByteArray), .int .i64 0, .int .i64 0, .int .i64 0, .int .i64 0, .int .i32 0, .string (⟨#[]⟩ : ByteArray)]) (t := 28) ?hr ?_; (case hd => rfl); (case hg => rfl); (case hr => first | (go_simp; done) | (go_simp; rfl)); intro gb215 hg w13 hbox hb; have n0_ := Aside0.mk (Kd.R_below (by (with_reducible repeat (first | apply Kd.R_alloc | apply Kd.R_drewN | apply Kd.R_drew)); exact HO_3.out) hb); have n1_ := Aside0.mk (below_step (by repeat (first | (with_reducible first | exact HB.out | apply below_alloc | apply pw_below_drewN | apply below_drew1) | exact HB.out)) hb); have n2_ := Aside0.mk (hbox); have n3_ := Aside0.mk ((by rw [hg]; exact (below_size (by repeat (first | (with_reducible first | exact HB.out | apply below_alloc | apply pw_below_drewN | apply below_drew1) | exact HB.out))) : w.heap.size ≤ gb215)); have n4_ := Aside0.mk ((by rw [hg]; exact (below_size (by repeat (first | (with_reducible first | exact HB.out | apply below_alloc | apply pw_below_drewN | apply below_drew1) | exact HB.out))) : w.heap.size ≤ gb215)); clear HO_3; clear HB; have HO_3 := n0_; have HB := n1_; have BK215 := n2_; have GW215 := n3_; have GE215 := n4_; clear n0_ n1_ n2_ n3_ n4_; clear hb hbox hg; have hcz14_0 : w13.cell? ⟨gb215, 0, none⟩ = some (.string (⟨#[]⟩ : ByteArray)) := (blk_cell BK215.out 0).trans rfl; have hcz14_1 : w13.cell? ⟨gb215, 1, none⟩ = some (.int .i64 0) := (blk_cell BK215.out 1).trans rfl; have hcz14_2 : w13.cell? ⟨gb215, 2, none⟩ = some (.int .i64 0) := (blk_cell BK215.out 2).trans rfl; have hcz14_3 : w13.cell? ⟨gb215, 3, none⟩ = some (.int .i64 0) := (blk_cell BK215.out 3).trans rfl; have hcz14_4 : w13.cell? ⟨gb215, 4, none⟩ = some (.int .i64 0) := (blk_cell BK215.out 4).trans rfl; have hcz14_5 : w13.cell? ⟨gb215, 5, none⟩ = some (.int .i32 0) := (blk_cell BK215.out 5).trans rfl; have hcz14_6 : w13.cell? ⟨gb215, 6, none⟩ = some (.string (⟨#[]⟩ : ByteArray)) := (blk_cell BK215.out 6).trans rfl; have hfz14_0 := blk_frozen BK215.out 0; have hfz14_1 := blk_frozen BK215.out 1; have hfz14_2 := blk_frozen BK215.out 2; have hfz14_3 := blk_frozen BK215.out 3; have hfz14_4 := blk_frozen BK215.out 4; have hfz14_5 := blk_frozen BK215.out 5; have hfz14_6 := blk_frozen BK215.out 6; obtain ⟨Ao15, co15, eo15⟩ := Kd.R_slice HO_3.out; subst eo15))
                    go_ret
                    exact ⟨by first | rfl | (simp [errW_none, errW_some] <;> rfl) | (simp [*, errW_none, errW_some] <;> rfl), by repeat (first | (with_reducible first | exact HB.out | apply below_alloc | apply pw_below_drewN | apply below_drew1 | refine below_set ?_ GE215.out) | exact HB.out)⟩
                  · rw [if_neg c12] at H
                    have c12b0 : decide ((t207.length : Int) ≤ x6_1) = false := decide_eq_false c12
                    clear c12
                    by_cases c16 : 0 ≤ x6_1
                    · rw [if_pos c16] at H
                      have c16b0 : decide (0 ≤ x6_1) = true := decide_eq_true c16
                      clear c16
                      by_cases c17 : x6_1 < (t207.length : Int)
                      · rw [if_pos c17] at H
                        have c17b0 : decide (x6_1 < (t207.length : Int)) = true := decide_eq_true c17
                        clear c17
                        replace H := Option.bind_eq_some_iff.mp H
                        obtain ⟨⟨t219, t220, t221, t222, t223, t224⟩, A180, H⟩ := H
                        replace H : (if t224 = true then (if ((rd_T28 l0 x36_1).f2).toList = ([] : List UInt8) then (if (!(t219 == ((rd_T28 l0 x36_1).f1.f0)) || (!(t220 == ((rd_T28 l0 x36_1).f1.f1)) || (!(t221 == ((rd_T28 l0 x36_1).f1.f2)) || (!(t222 == ((rd_T28 l0 x36_1).f1.f3)) || (!(t223 == ((rd_T28 l0 x36_1).f1.f4))))))) = true then (some false) else (curtilagelaw10_AsmGoes.l0 k1 l0 t207 (wrap64 (x6_1 + 1)) l0 (l0.length : Int) (wrap64 (x36_1 + 1)))) else ((asm_Find.f l0 ((rd_T28 l0 x36_1).f2)).bind fun bt226 => (if t219 = 1 then (curtilagelaw10_AsmGoes.j1 k1 l0 t207 x6_1 bt226.1 bt226.2 (wrap64 ((wrap64 (t223)) - (wrap64 ((rd_T28 l0 x36_1).f1.f4)))) l0 (l0.length : Int) x36_1 ((rd_T28 l0 x36_1).f0) ((rd_T28 l0 x36_1).f1.f0) ((rd_T28 l0 x36_1).f1.f1) ((rd_T28 l0 x36_1).f1.f2) ((rd_T28 l0 x36_1).f1.f3) ((rd_T28 l0 x36_1).f1.f4) ((rd_T28 l0 x36_1).f2) t219 t220 t221 t222 t223) else (curtilagelaw10_AsmGoes.j1 k1 l0 t207 x6_1 bt226.1 bt226.2 (wrap64 ((wrap64 (x6_1 + 1)) + (wrap64 (t223)))) l0 (l0.length : Int) x36_1 ((rd_T28 l0 x36_1).f0) ((rd_T28 l0 x36_1).f1.f0) ((rd_T28 l0 x36_1).f1.f1) ((rd_T28 l0 x36_1).f1.f2) ((rd_T28 l0 x36_1).f1.f3) ((rd_T28 l0 x36_1).f1.f4) ((rd_T28 l0 x36_1).f2) t219 t220 t221 t222 t223)))) else (some false)) = some r := H
                        have A18 := Aside0.mk A180
                        clear A180
                        by_cases c19 : t224 = true
                        · subst c19
                          have H1 : (if ((rd_T28 l0 x36_1).f2).toList = ([] : List UInt8) then (if (!(t219 == ((rd_T28 l0 x36_1).f1.f0)) || (!(t220 == ((rd_T28 l0 x36_1).f1.f1)) || (!(t221 == ((rd_T28 l0 x36_1).f1.f2)) || (!(t222 == ((rd_T28 l0 x36_1).f1.f3)) || (!(t223 == ((rd_T28 l0 x36_1).f1.f4))))))) = true then (some false) else (curtilagelaw10_AsmGoes.l0 k1 l0 t207 (wrap64 (x6_1 + 1)) l0 (l0.length : Int) (wrap64 (x36_1 + 1)))) else ((asm_Find.f l0 ((rd_T28 l0 x36_1).f2)).bind fun bt226 => (if t219 = 1 then (curtilagelaw10_AsmGoes.j1 k1 l0 t207 x6_1 bt226.1 bt226.2 (wrap64 ((wrap64 (t223)) - (wrap64 ((rd_T28 l0 x36_1).f1.f4)))) l0 (l0.length : Int) x36_1 ((rd_T28 l0 x36_1).f0) ((rd_T28 l0 x36_1).f1.f0) ((rd_T28 l0 x36_1).f1.f1) ((rd_T28 l0 x36_1).f1.f2) ((rd_T28 l0 x36_1).f1.f3) ((rd_T28 l0 x36_1).f1.f4) ((rd_T28 l0 x36_1).f2) t219 t220 t221 t222 t223) else (curtilagelaw10_AsmGoes.j1 k1 l0 t207 x6_1 bt226.1 bt226.2 (wrap64 ((wrap64 (x6_1 + 1)) + (wrap64 (t223)))) l0 (l0.length : Int) x36_1 ((rd_T28 l0 x36_1).f0) ((rd_T28 l0 x36_1).f1.f0) ((rd_T28 l0 x36_1).f1.f1) ((rd_T28 l0 x36_1).f1.f2) ((rd_T28 l0 x36_1).f1.f3) ((rd_T28 l0 x36_1).f1.f4) ((rd_T28 l0 x36_1).f2) t219 t220 t221 t222 t223)))) = some r := by rw [if_pos rfl] at H; exact H
                          clear H
                          have H := H1
                          clear H1
                          by_cases c20 : ((rd_T28 l0 x36_1).f2).toList = ([] : List UInt8)
                          · rw [if_pos c20] at H
                            have c20b0 : (((rd_T28 l0 x36_1).f2).toList == ([] : List UInt8)) = true := beq_iff_eq.mpr c20
                            have c20b1 : (((rd_T28 l0 x36_1).f2).toList != ([] : List UInt8)) = false := bne_eq_false_iff_eq.mpr c20
                            clear c20
                            by_cases c21 : (!(t219 == ((rd_T28 l0 x36_1).f1.f0)) || (!(t220 == ((rd_T28 l0 x36_1).f1.f1)) || (!(t221 == ((rd_T28 l0 x36_1).f1.f2)) || (!(t222 == ((rd_T28 l0 x36_1).f1.f3)) || (!(t223 == ((rd_T28 l0 x36_1).f1.f4))))))) = true
                            · rw [if_pos c21] at H
                              have c21b0 : (!(t219 == ((rd_T28 l0 x36_1).f1.f0)) || (!(t220 == ((rd_T28 l0 x36_1).f1.f1)) || (!(t221 == ((rd_T28 l0 x36_1).f1.f2)) || (!(t222 == ((rd_T28 l0 x36_1).f1.f3)) || (!(t223 == ((rd_T28 l0 x36_1).f1.f4))))))) = true := c21
                              clear c21
                              obtain rfl := Option.some.inj H
                              have p214 : 0 ≤ (x36_1 : Int) := of_decide_eq_true (by first | (with_reducible assumption) | assumption)
                              have q214 : x36_1 < (l0.length : Int) := of_decide_eq_true (by first | (with_reducible assumption) | assumption)
                              obtain ⟨ad214, e214, hx214_0, hx214_1, hx214_2, hx214_3, hx214_4, hx214_5, hx214_6⟩ := at_T28 HR0.out x36_1 p214 q214
                              cases e214
                              replace hx214_0 := (HB.out.cell (World.block_lt_of_cell? w _ hx214_0)).trans hx214_0
                              replace hx214_1 := (HB.out.cell (World.block_lt_of_cell? w _ hx214_1)).trans hx214_1
                              replace hx214_2 := (HB.out.cell (World.block_lt_of_cell? w _ hx214_2)).trans hx214_2
                              replace hx214_3 := (HB.out.cell (World.block_lt_of_cell? w _ hx214_3)).trans hx214_3
                              replace hx214_4 := (HB.out.cell (World.block_lt_of_cell? w _ hx214_4)).trans hx214_4
                              replace hx214_5 := (HB.out.cell (World.block_lt_of_cell? w _ hx214_5)).trans hx214_5
                              replace hx214_6 := (HB.out.cell (World.block_lt_of_cell? w _ hx214_6)).trans hx214_6
                              replace p214 := eq_true p214
                              replace q214 := eq_true q214
                              go_wp2_with (first | ((with_reducible refine gate_dst (N := 8) rfl ?_); refine box_event ?hg (N := 8) ?hd (cs := #[.string (⟨#[]⟩ : ByteArray), .int .i64 0, .int .i64 0, .int .i64 0, .int .i64 0, .int .i32 0, .string (⟨#[]⟩ : ByteArray)]) (t := 28) ?hr ?_; (case hd => rfl); (case hg => rfl); (case hr => first | (go_simp; done) | (go_simp; rfl)); intro gb215 hg w22 hbox hb; have n0_ := Aside0.mk (Kd.R_below (by (with_reducible repeat (first | apply Kd.R_alloc | apply Kd.R_drewN | apply Kd.R_drew)); exact HO_3.out) hb); have n1_ := Aside0.mk (below_step (by repeat (first | (with_reducible first | exact HB.out | apply below_alloc | apply pw_below_drewN | apply below_drew1) | exact HB.out)) hb); have n2_ := Aside0.mk (hbox); have n3_ := Aside0.mk ((by rw [hg]; exact (below_size (by repeat (first | (with_reducible first | exact HB.out | apply below_alloc | apply pw_below_drewN | apply below_drew1) | exact HB.out))) : w.heap.size ≤ gb215)); have n4_ := Aside0.mk ((by rw [hg]; exact (below_size (by repeat (first | (with_reducible first | exact HB.out | apply below_alloc | apply pw_below_drewN | apply below_drew1) | exact HB.out))) : w.heap.size ≤ gb215)); clear HO_3; clear HB; have HO_3 := n0_; have HB := n1_; have BK215 := n2_; have GW215 := n3_; have GE215 := n4_; clear n0_ n1_ n2_ n3_ n4_; clear hb hbox hg; have hcz23_0 : w22.cell? ⟨gb215, 0, none⟩ = some (.string (⟨#[]⟩ : ByteArray)) := (blk_cell BK215.out 0).trans rfl; have hcz23_1 : w22.cell? ⟨gb215, 1, none⟩ = some (.int .i64 0) := (blk_cell BK215.out 1).trans rfl; have hcz23_2 : w22.cell? ⟨gb215, 2, none⟩ = some (.int .i64 0) := (blk_cell BK215.out 2).trans rfl; have hcz23_3 : w22.cell? ⟨gb215, 3, none⟩ = some (.int .i64 0) := (blk_cell BK215.out 3).trans rfl; have hcz23_4 : w22.cell? ⟨gb215, 4, none⟩ = some (.int .i64 0) := (blk_cell BK215.out 4).trans rfl; have hcz23_5 : w22.cell? ⟨gb215, 5, none⟩ = some (.int .i32 0) := (blk_cell BK215.out 5).trans rfl; have hcz23_6 : w22.cell? ⟨gb215, 6, none⟩ = some (.string (⟨#[]⟩ : ByteArray)) := (blk_cell BK215.out 6).trans rfl; have hfz23_0 := blk_frozen BK215.out 0; have hfz23_1 := blk_frozen BK215.out 1; have hfz23_2 := blk_frozen BK215.out 2; have hfz23_3 := blk_frozen BK215.out 3; have hfz23_4 := blk_frozen BK215.out 4; have hfz23_5 := blk_frozen BK215.out 5; have hfz23_6 := blk_frozen BK215.out 6; obtain ⟨Ao24, co24, eo24⟩ := Kd.R_slice HO_3.out; subst eo24; have p218 : 0 ≤ (x6_1 : Int) := of_decide_eq_true (by first | (with_reducible assumption) | assumption); have q218 : x6_1 < (t207.length : Int) := of_decide_eq_true (by first | (with_reducible assumption) | assumption); obtain ⟨ad218, e218, hx218_0⟩ := Kd.at_int (Kd.R_reads' HO_3.out).2.2 x6_1 p218 q218; cases e218; have hn218_0 : ad218.block ≠ gb215 := Kd.own_blk (Kd.R_ne HO_3.out BK215.out (by decide)); have hn218_1 : ad218.block ≠ gb215 := Kd.own_blk (Kd.R_ne HO_3.out BK215.out (by decide)); have hn218_2 : ad218.block ≠ gb215 := Kd.own_blk (Kd.R_ne HO_3.out BK215.out (by decide)); have hn218_3 : ad218.block ≠ gb215 := Kd.own_blk (Kd.R_ne HO_3.out BK215.out (by decide)); have hn218_4 : ad218.block ≠ gb215 := Kd.own_blk (Kd.R_ne HO_3.out BK215.out (by decide)); have hn218_5 : ad218.block ≠ gb215 := Kd.own_blk (Kd.R_ne HO_3.out BK215.out (by decide)); have hn218_6 : ad218.block ≠ gb215 := Kd.own_blk (Kd.R_ne HO_3.out BK215.out (by decide)); replace hx218_0 := (cell_far (p := ⟨gb215, 0, none⟩) (by first | (rw [add_block]; exact hn218_0) | (show (Addr.add _ _).block ≠ _; rw [add_block]; exact hn218_0) | exact hn218_0) (.string ((rd_T28 l0 x36_1).f0))).trans hx218_0; replace hx218_0 := (cell_far (p := ⟨gb215, 1, none⟩) (by first | (rw [add_block]; exact hn218_1) | (show (Addr.add _ _).block ≠ _; rw [add_block]; exact hn218_1) | exact hn218_1) (.int .i64 ((rd_T28 l0 x36_1).f1.f0))).trans hx218_0; replace hx218_0 := (cell_far (p := ⟨gb215, 2, none⟩) (by first | (rw [add_block]; exact hn218_2) | (show (Addr.add _ _).block ≠ _; rw [add_block]; exact hn218_2) | exact hn218_2) (.int .i64 ((rd_T28 l0 x36_1).f1.f1))).trans hx218_0; replace hx218_0 := (cell_far (p := ⟨gb215, 3, none⟩) (by first | (rw [add_block]; exact hn218_3) | (show (Addr.add _ _).block ≠ _; rw [add_block]; exact hn218_3) | exact hn218_3) (.int .i64 ((rd_T28 l0 x36_1).f1.f2))).trans hx218_0; replace hx218_0 := (cell_far (p := ⟨gb215, 4, none⟩) (by first | (rw [add_block]; exact hn218_4) | (show (Addr.add _ _).block ≠ _; rw [add_block]; exact hn218_4) | exact hn218_4) (.int .i64 ((rd_T28 l0 x36_1).f1.f3))).trans hx218_0; replace hx218_0 := (cell_far (p := ⟨gb215, 5, none⟩) (by first | (rw [add_block]; exact hn218_5) | (show (Addr.add _ _).block ≠ _; rw [add_block]; exact hn218_5) | exact hn218_5) (.int .i32 ((rd_T28 l0 x36_1).f1.f4))).trans hx218_0; replace hx218_0 := (cell_far (p := ⟨gb215, 6, none⟩) (by first | (rw [add_block]; exact hn218_6) | (show (Addr.add _ _).block ≠ _; rw [add_block]; exact hn218_6) | exact hn218_6) (.string ((rd_T28 l0 x36_1).f2))).trans hx218_0; clear hn218_0; clear hn218_1; clear hn218_2; clear hn218_3; clear hn218_4; clear hn218_5; clear hn218_6; replace p218 := eq_true p218; replace q218 := eq_true q218) | ((with_reducible refine gate_callee (f := 11) rfl ?_); refine goesL_ (some 66) rfl rfl Tryd.func11 (by kernel_rfl) rfl #[.int .u64 (rd t207 x6_1)] rfl (by (try simp only [List.map_toArray, List.map_cons, List.map_nil]); first | done | rfl | (simp only [List.length_drop, List.length_take]; rfl)) ?_; (with_reducible refine (curtilageref08_Decode.calls k1 (rd t207 x6_1) t219 t220 t221 t222 t223 true _ A18.out).mono ?_); rintro e w25 ⟨rfl, hb⟩; refine ⟨_, rfl, ?_⟩; have n0_ := Aside0.mk (Kd.R_below (by (with_reducible repeat (first | apply Kd.R_alloc | apply Kd.R_drewN | apply Kd.R_drew)); exact (Kd.R_mono (Kd.R_far (p := ⟨gb215, 6, none⟩) (Kd.R_far (p := ⟨gb215, 5, none⟩) (Kd.R_far (p := ⟨gb215, 4, none⟩) (Kd.R_far (p := ⟨gb215, 3, none⟩) (Kd.R_far (p := ⟨gb215, 2, none⟩) (Kd.R_far (p := ⟨gb215, 1, none⟩) (Kd.R_far (p := ⟨gb215, 0, none⟩) (Kd.R_types HO_3.out BK215.out (by decide)) (fun _ hk => hk.2) (.string ((rd_T28 l0 x36_1).f0))) (fun _ hk => hk.2) (.int .i64 ((rd_T28 l0 x36_1).f1.f0))) (fun _ hk => hk.2) (.int .i64 ((rd_T28 l0 x36_1).f1.f1))) (fun _ hk => hk.2) (.int .i64 ((rd_T28 l0 x36_1).f1.f2))) (fun _ hk => hk.2) (.int .i64 ((rd_T28 l0 x36_1).f1.f3))) (fun _ hk => hk.2) (.int .i32 ((rd_T28 l0 x36_1).f1.f4))) (fun _ hk => hk.2) (.string ((rd_T28 l0 x36_1).f2))) (fun _ h_ => h_.1))) hb); have n1_ := Aside0.mk (blk_below (g := gb215) (o := .cells #[.string ((rd_T28 l0 x36_1).f0), .int .i64 ((rd_T28 l0 x36_1).f1.f0), .int .i64 ((rd_T28 l0 x36_1).f1.f1), .int .i64 ((rd_T28 l0 x36_1).f1.f2), .int .i64 ((rd_T28 l0 x36_1).f1.f3), .int .i32 ((rd_T28 l0 x36_1).f1.f4), .string ((rd_T28 l0 x36_1).f2)] 28 (0, 0)) (by (with_reducible repeat (first | refine blk_drewN ?_ _ | refine blk_drew ?_ | refine blk_alloc ?_ _)); refine blk_put (cs := #[.string ((rd_T28 l0 x36_1).f0), .int .i64 ((rd_T28 l0 x36_1).f1.f0), .int .i64 ((rd_T28 l0 x36_1).f1.f1), .int .i64 ((rd_T28 l0 x36_1).f1.f2), .int .i64 ((rd_T28 l0 x36_1).f1.f3), .int .i32 ((rd_T28 l0 x36_1).f1.f4), .string (⟨#[]⟩ : ByteArray)]) ?_ 6 _ rfl; (with_reducible repeat (first | refine blk_drewN ?_ _ | refine blk_drew ?_ | refine blk_alloc ?_ _)); refine blk_put (cs := #[.string ((rd_T28 l0 x36_1).f0), .int .i64 ((rd_T28 l0 x36_1).f1.f0), .int .i64 ((rd_T28 l0 x36_1).f1.f1), .int .i64 ((rd_T28 l0 x36_1).f1.f2), .int .i64 ((rd_T28 l0 x36_1).f1.f3), .int .i32 0, .string (⟨#[]⟩ : ByteArray)]) ?_ 5 _ rfl; (with_reducible repeat (first | refine blk_drewN ?_ _ | refine blk_drew ?_ | refine blk_alloc ?_ _)); refine blk_put (cs := #[.string ((rd_T28 l0 x36_1).f0), .int .i64 ((rd_T28 l0 x36_1).f1.f0), .int .i64 ((rd_T28 l0 x36_1).f1.f1), .int .i64 ((rd_T28 l0 x36_1).f1.f2), .int .i64 0, .int .i32 0, .string (⟨#[]⟩ : ByteArray)]) ?_ 4 _ rfl; (with_reducible repeat (first | refine blk_drewN ?_ _ | refine blk_drew ?_ | refine blk_alloc ?_ _)); refine blk_put (cs := #[.string ((rd_T28 l0 x36_1).f0), .int .i64 ((rd_T28 l0 x36_1).f1.f0), .int .i64 ((rd_T28 l0 x36_1).f1.f1), .int .i64 0, .int .i64 0, .int .i32 0, .string (⟨#[]⟩ : ByteArray)]) ?_ 3 _ rfl; (with_reducible repeat (first | refine blk_drewN ?_ _ | refine blk_drew ?_ | refine blk_alloc ?_ _)); refine blk_put (cs := #[.string ((rd_T28 l0 x36_1).f0), .int .i64 ((rd_T28 l0 x36_1).f1.f0), .int .i64 0, .int .i64 0, .int .i64 0, .int .i32 0, .string (⟨#[]⟩ : ByteArray)]) ?_ 2 _ rfl; (with_reducible repeat (first | refine blk_drewN ?_ _ | refine blk_drew ?_ | refine blk_alloc ?_ _)); refine blk_put (cs := #[.string ((rd_T28 l0 x36_1).f0), .int .i64 0, .int .i64 0, .int .i64 0, .int .i64 0, .int .i32 0, .string (⟨#[]⟩ : ByteArray)]) ?_ 1 _ rfl; (with_reducible repeat (first | refine blk_drewN ?_ _ | refine blk_drew ?_ | refine blk_alloc ?_ _)); refine blk_put (cs := #[.string (⟨#[]⟩ : ByteArray), .int .i64 0, .int .i64 0, .int .i64 0, .int .i64 0, .int .i32 0, .string (⟨#[]⟩ : ByteArray)]) ?_ 0 _ rfl; (with_reducible repeat (first | refine blk_drewN ?_ _ | refine blk_drew ?_ | refine blk_alloc ?_ _)); exact BK215.out) hb); have n2_ := Aside0.mk (below_step (by repeat (first | (with_reducible first | exact HB.out | apply below_alloc | apply pw_below_drewN | apply below_drew1 | refine below_set ?_ GE215.out) | exact HB.out)) hb); clear HO_3; clear BK215; clear HB; have HO_3 := n0_; have BK215 := n1_; have HB := n2_; clear n0_ n1_ n2_; (try clear hb); (try clear hb2); (try clear hk); (try clear hi)) | ((with_reducible refine gate_dst (N := 11) rfl ?_); refine box_event ?hg (N := 11) ?hd (cs := #[.int .i64 0, .int .i64 0, .int .i64 0, .int .i64 0, .int .i32 0]) (t := 26) ?hr ?_; (case hd => rfl); (case hg => rfl); (case hr => first | (go_simp; done) | (go_simp; rfl)); intro gb225 hg w26 hbox hb; have n0_ := Aside0.mk (Kd.R_below (by (with_reducible repeat (first | apply Kd.R_alloc | apply Kd.R_drewN | apply Kd.R_drew)); exact HO_3.out) hb); have n1_ := Aside0.mk (blk_below (g := gb215) (o := .cells #[.string ((rd_T28 l0 x36_1).f0), .int .i64 ((rd_T28 l0 x36_1).f1.f0), .int .i64 ((rd_T28 l0 x36_1).f1.f1), .int .i64 ((rd_T28 l0 x36_1).f1.f2), .int .i64 ((rd_T28 l0 x36_1).f1.f3), .int .i32 ((rd_T28 l0 x36_1).f1.f4), .string ((rd_T28 l0 x36_1).f2)] 28 (0, 0)) (by (with_reducible repeat (first | refine blk_drewN ?_ _ | refine blk_drew ?_ | refine blk_alloc ?_ _)); exact BK215.out) hb); have n2_ := Aside0.mk (below_step (by repeat (first | (with_reducible first | exact HB.out | apply below_alloc | apply pw_below_drewN | apply below_drew1 | refine below_set ?_ GE215.out) | exact HB.out)) hb); have n3_ := Aside0.mk (hbox); have n4_ := Aside0.mk ((by rw [hg]; exact (below_size (by repeat (first | (with_reducible first | exact HB.out | apply below_alloc | apply pw_below_drewN | apply below_drew1 | refine below_set ?_ GE215.out) | exact HB.out))) : w.heap.size ≤ gb225)); have n5_ := Aside0.mk ((by rw [hg]; exact (below_size (by repeat (first | (with_reducible first | exact HB.out | apply below_alloc | apply pw_below_drewN | apply below_drew1 | refine below_set ?_ GE215.out) | exact HB.out))) : w.heap.size ≤ gb225)); have n6_ := Aside0.mk ((by rw [hg]; exact Nat.ne_of_lt (blk_lt (g := gb215) (o := .cells #[.string ((rd_T28 l0 x36_1).f0), .int .i64 ((rd_T28 l0 x36_1).f1.f0), .int .i64 ((rd_T28 l0 x36_1).f1.f1), .int .i64 ((rd_T28 l0 x36_1).f1.f2), .int .i64 ((rd_T28 l0 x36_1).f1.f3), .int .i32 ((rd_T28 l0 x36_1).f1.f4), .string ((rd_T28 l0 x36_1).f2)] 28 (0, 0)) (by (with_reducible repeat (first | refine blk_drewN ?_ _ | refine blk_drew ?_ | refine blk_alloc ?_ _)); exact BK215.out)) : gb215 ≠ gb225)); have n7_ := Aside0.mk ((by rw [hg]; exact Nat.ne_of_gt (blk_lt (g := gb215) (o := .cells #[.string ((rd_T28 l0 x36_1).f0), .int .i64 ((rd_T28 l0 x36_1).f1.f0), .int .i64 ((rd_T28 l0 x36_1).f1.f1), .int .i64 ((rd_T28 l0 x36_1).f1.f2), .int .i64 ((rd_T28 l0 x36_1).f1.f3), .int .i32 ((rd_T28 l0 x36_1).f1.f4), .string ((rd_T28 l0 x36_1).f2)] 28 (0, 0)) (by (with_reducible repeat (first | refine blk_drewN ?_ _ | refine blk_drew ?_ | refine blk_alloc ?_ _)); exact BK215.out)) : gb225 ≠ gb215)); clear HO_3; clear BK215; clear HB; have HO_3 := n0_; have BK215 := n1_; have HB := n2_; have BK225 := n3_; have GW225 := n4_; have GE225 := n5_; have NB215_225 := n6_; have NB225_215 := n7_; clear n0_ n1_ n2_ n3_ n4_ n5_ n6_ n7_; clear hb hbox hg; have hnb27 := NB225_215.out; have hnc27 := NB215_225.out; have hcz28_0 : w26.cell? ⟨gb225, 0, none⟩ = some (.int .i64 0) := (blk_cell BK225.out 0).trans rfl; have hcz28_1 : w26.cell? ⟨gb225, 1, none⟩ = some (.int .i64 0) := (blk_cell BK225.out 1).trans rfl; have hcz28_2 : w26.cell? ⟨gb225, 2, none⟩ = some (.int .i64 0) := (blk_cell BK225.out 2).trans rfl; have hcz28_3 : w26.cell? ⟨gb225, 3, none⟩ = some (.int .i64 0) := (blk_cell BK225.out 3).trans rfl; have hcz28_4 : w26.cell? ⟨gb225, 4, none⟩ = some (.int .i32 0) := (blk_cell BK225.out 4).trans rfl; have hfz28_0 := blk_frozen BK225.out 0; have hfz28_1 := blk_frozen BK225.out 1; have hfz28_2 := blk_frozen BK225.out 2; have hfz28_3 := blk_frozen BK225.out 3; have hfz28_4 := blk_frozen BK225.out 4; have hcz29_0 : w26.cell? ⟨gb215, 0, none⟩ = some (.string ((rd_T28 l0 x36_1).f0)) := (blk_cell BK215.out 0).trans rfl; have hcz29_1 : w26.cell? ⟨gb215, 1, none⟩ = some (.int .i64 ((rd_T28 l0 x36_1).f1.f0)) := (blk_cell BK215.out 1).trans rfl; have hcz29_2 : w26.cell? ⟨gb215, 2, none⟩ = some (.int .i64 ((rd_T28 l0 x36_1).f1.f1)) := (blk_cell BK215.out 2).trans rfl; have hcz29_3 : w26.cell? ⟨gb215, 3, none⟩ = some (.int .i64 ((rd_T28 l0 x36_1).f1.f2)) := (blk_cell BK215.out 3).trans rfl; have hcz29_4 : w26.cell? ⟨gb215, 4, none⟩ = some (.int .i64 ((rd_T28 l0 x36_1).f1.f3)) := (blk_cell BK215.out 4).trans rfl; have hcz29_5 : w26.cell? ⟨gb215, 5, none⟩ = some (.int .i32 ((rd_T28 l0 x36_1).f1.f4)) := (blk_cell BK215.out 5).trans rfl; have hcz29_6 : w26.cell? ⟨gb215, 6, none⟩ = some (.string ((rd_T28 l0 x36_1).f2)) := (blk_cell BK215.out 6).trans rfl; have hfz29_0 := blk_frozen BK215.out 0; have hfz29_1 := blk_frozen BK215.out 1; have hfz29_2 := blk_frozen BK215.out 2; have hfz29_3 := blk_frozen BK215.out 3; have hfz29_4 := blk_frozen BK215.out 4; have hfz29_5 := blk_frozen BK215.out 5; have hfz29_6 := blk_frozen BK215.out 6))
                              go_ret
                              exact ⟨by first | rfl | (simp [errW_none, errW_some] <;> rfl) | (simp [*, errW_none, errW_some] <;> rfl), by repeat (first | (with_reducible first | exact HB.out | apply below_alloc | apply pw_below_drewN | apply below_drew1 | refine below_set ?_ GE215.out | refine below_set ?_ GE225.out) | exact HB.out)⟩
                            · rw [if_neg c21] at H
                              have c21b0 : (!(t219 == ((rd_T28 l0 x36_1).f1.f0)) || (!(t220 == ((rd_T28 l0 x36_1).f1.f1)) || (!(t221 == ((rd_T28 l0 x36_1).f1.f2)) || (!(t222 == ((rd_T28 l0 x36_1).f1.f3)) || (!(t223 == ((rd_T28 l0 x36_1).f1.f4))))))) = false := by simpa using c21
                              clear c21
                              have H' := Aside0.mk H
                              clear H
                              have p214 : 0 ≤ (x36_1 : Int) := of_decide_eq_true (by first | (with_reducible assumption) | assumption)
                              have q214 : x36_1 < (l0.length : Int) := of_decide_eq_true (by first | (with_reducible assumption) | assumption)
                              obtain ⟨ad214, e214, hx214_0, hx214_1, hx214_2, hx214_3, hx214_4, hx214_5, hx214_6⟩ := at_T28 HR0.out x36_1 p214 q214
                              cases e214
                              replace hx214_0 := (HB.out.cell (World.block_lt_of_cell? w _ hx214_0)).trans hx214_0
                              replace hx214_1 := (HB.out.cell (World.block_lt_of_cell? w _ hx214_1)).trans hx214_1
                              replace hx214_2 := (HB.out.cell (World.block_lt_of_cell? w _ hx214_2)).trans hx214_2
                              replace hx214_3 := (HB.out.cell (World.block_lt_of_cell? w _ hx214_3)).trans hx214_3
                              replace hx214_4 := (HB.out.cell (World.block_lt_of_cell? w _ hx214_4)).trans hx214_4
                              replace hx214_5 := (HB.out.cell (World.block_lt_of_cell? w _ hx214_5)).trans hx214_5
                              replace hx214_6 := (HB.out.cell (World.block_lt_of_cell? w _ hx214_6)).trans hx214_6
                              replace p214 := eq_true p214
                              replace q214 := eq_true q214
                              go_wp2_with (first | ((with_reducible refine gate_dst (N := 8) rfl ?_); refine box_event ?hg (N := 8) ?hd (cs := #[.string (⟨#[]⟩ : ByteArray), .int .i64 0, .int .i64 0, .int .i64 0, .int .i64 0, .int .i32 0, .string (⟨#[]⟩ : ByteArray)]) (t := 28) ?hr ?_; (case hd => rfl); (case hg => rfl); (case hr => first | (go_simp; done) | (go_simp; rfl)); intro gb215 hg w30 hbox hb; have n0_ := Aside0.mk (Kd.R_below (by (with_reducible repeat (first | apply Kd.R_alloc | apply Kd.R_drewN | apply Kd.R_drew)); exact HO_3.out) hb); have n1_ := Aside0.mk (below_step (by repeat (first | (with_reducible first | exact HB.out | apply below_alloc | apply pw_below_drewN | apply below_drew1) | exact HB.out)) hb); have n2_ := Aside0.mk (hbox); have n3_ := Aside0.mk ((by rw [hg]; exact (below_size (by repeat (first | (with_reducible first | exact HB.out | apply below_alloc | apply pw_below_drewN | apply below_drew1) | exact HB.out))) : w.heap.size ≤ gb215)); have n4_ := Aside0.mk ((by rw [hg]; exact (below_size (by repeat (first | (with_reducible first | exact HB.out | apply below_alloc | apply pw_below_drewN | apply below_drew1) | exact HB.out))) : w.heap.size ≤ gb215)); clear HO_3; clear HB; have HO_3 := n0_; have HB := n1_; have BK215 := n2_; have GW215 := n3_; have GE215 := n4_; clear n0_ n1_ n2_ n3_ n4_; clear hb hbox hg; have hcz31_0 : w30.cell? ⟨gb215, 0, none⟩ = some (.string (⟨#[]⟩ : ByteArray)) := (blk_cell BK215.out 0).trans rfl; have hcz31_1 : w30.cell? ⟨gb215, 1, none⟩ = some (.int .i64 0) := (blk_cell BK215.out 1).trans rfl; have hcz31_2 : w30.cell? ⟨gb215, 2, none⟩ = some (.int .i64 0) := (blk_cell BK215.out 2).trans rfl; have hcz31_3 : w30.cell? ⟨gb215, 3, none⟩ = some (.int .i64 0) := (blk_cell BK215.out 3).trans rfl; have hcz31_4 : w30.cell? ⟨gb215, 4, none⟩ = some (.int .i64 0) := (blk_cell BK215.out 4).trans rfl; have hcz31_5 : w30.cell? ⟨gb215, 5, none⟩ = some (.int .i32 0) := (blk_cell BK215.out 5).trans rfl; have hcz31_6 : w30.cell? ⟨gb215, 6, none⟩ = some (.string (⟨#[]⟩ : ByteArray)) := (blk_cell BK215.out 6).trans rfl; have hfz31_0 := blk_frozen BK215.out 0; have hfz31_1 := blk_frozen BK215.out 1; have hfz31_2 := blk_frozen BK215.out 2; have hfz31_3 := blk_frozen BK215.out 3; have hfz31_4 := blk_frozen BK215.out 4; have hfz31_5 := blk_frozen BK215.out 5; have hfz31_6 := blk_frozen BK215.out 6; obtain ⟨Ao32, co32, eo32⟩ := Kd.R_slice HO_3.out; subst eo32; have p218 : 0 ≤ (x6_1 : Int) := of_decide_eq_true (by first | (with_reducible assumption) | assumption); have q218 : x6_1 < (t207.length : Int) := of_decide_eq_true (by first | (with_reducible assumption) | assumption); obtain ⟨ad218, e218, hx218_0⟩ := Kd.at_int (Kd.R_reads' HO_3.out).2.2 x6_1 p218 q218; cases e218; have hn218_0 : ad218.block ≠ gb215 := Kd.own_blk (Kd.R_ne HO_3.out BK215.out (by decide)); have hn218_1 : ad218.block ≠ gb215 := Kd.own_blk (Kd.R_ne HO_3.out BK215.out (by decide)); have hn218_2 : ad218.block ≠ gb215 := Kd.own_blk (Kd.R_ne HO_3.out BK215.out (by decide)); have hn218_3 : ad218.block ≠ gb215 := Kd.own_blk (Kd.R_ne HO_3.out BK215.out (by decide)); have hn218_4 : ad218.block ≠ gb215 := Kd.own_blk (Kd.R_ne HO_3.out BK215.out (by decide)); have hn218_5 : ad218.block ≠ gb215 := Kd.own_blk (Kd.R_ne HO_3.out BK215.out (by decide)); have hn218_6 : ad218.block ≠ gb215 := Kd.own_blk (Kd.R_ne HO_3.out BK215.out (by decide)); replace hx218_0 := (cell_far (p := ⟨gb215, 0, none⟩) (by first | (rw [add_block]; exact hn218_0) | (show (Addr.add _ _).block ≠ _; rw [add_block]; exact hn218_0) | exact hn218_0) (.string ((rd_T28 l0 x36_1).f0))).trans hx218_0; replace hx218_0 := (cell_far (p := ⟨gb215, 1, none⟩) (by first | (rw [add_block]; exact hn218_1) | (show (Addr.add _ _).block ≠ _; rw [add_block]; exact hn218_1) | exact hn218_1) (.int .i64 ((rd_T28 l0 x36_1).f1.f0))).trans hx218_0; replace hx218_0 := (cell_far (p := ⟨gb215, 2, none⟩) (by first | (rw [add_block]; exact hn218_2) | (show (Addr.add _ _).block ≠ _; rw [add_block]; exact hn218_2) | exact hn218_2) (.int .i64 ((rd_T28 l0 x36_1).f1.f1))).trans hx218_0; replace hx218_0 := (cell_far (p := ⟨gb215, 3, none⟩) (by first | (rw [add_block]; exact hn218_3) | (show (Addr.add _ _).block ≠ _; rw [add_block]; exact hn218_3) | exact hn218_3) (.int .i64 ((rd_T28 l0 x36_1).f1.f2))).trans hx218_0; replace hx218_0 := (cell_far (p := ⟨gb215, 4, none⟩) (by first | (rw [add_block]; exact hn218_4) | (show (Addr.add _ _).block ≠ _; rw [add_block]; exact hn218_4) | exact hn218_4) (.int .i64 ((rd_T28 l0 x36_1).f1.f3))).trans hx218_0; replace hx218_0 := (cell_far (p := ⟨gb215, 5, none⟩) (by first | (rw [add_block]; exact hn218_5) | (show (Addr.add _ _).block ≠ _; rw [add_block]; exact hn218_5) | exact hn218_5) (.int .i32 ((rd_T28 l0 x36_1).f1.f4))).trans hx218_0; replace hx218_0 := (cell_far (p := ⟨gb215, 6, none⟩) (by first | (rw [add_block]; exact hn218_6) | (show (Addr.add _ _).block ≠ _; rw [add_block]; exact hn218_6) | exact hn218_6) (.string ((rd_T28 l0 x36_1).f2))).trans hx218_0; clear hn218_0; clear hn218_1; clear hn218_2; clear hn218_3; clear hn218_4; clear hn218_5; clear hn218_6; replace p218 := eq_true p218; replace q218 := eq_true q218) | ((with_reducible refine gate_callee (f := 11) rfl ?_); refine goesL_ (some 66) rfl rfl Tryd.func11 (by kernel_rfl) rfl #[.int .u64 (rd t207 x6_1)] rfl (by (try simp only [List.map_toArray, List.map_cons, List.map_nil]); first | done | rfl | (simp only [List.length_drop, List.length_take]; rfl)) ?_; (with_reducible refine (curtilageref08_Decode.calls k1 (rd t207 x6_1) t219 t220 t221 t222 t223 true _ A18.out).mono ?_); rintro e w33 ⟨rfl, hb⟩; refine ⟨_, rfl, ?_⟩; have n0_ := Aside0.mk (Kd.R_below (by (with_reducible repeat (first | apply Kd.R_alloc | apply Kd.R_drewN | apply Kd.R_drew)); exact (Kd.R_mono (Kd.R_far (p := ⟨gb215, 6, none⟩) (Kd.R_far (p := ⟨gb215, 5, none⟩) (Kd.R_far (p := ⟨gb215, 4, none⟩) (Kd.R_far (p := ⟨gb215, 3, none⟩) (Kd.R_far (p := ⟨gb215, 2, none⟩) (Kd.R_far (p := ⟨gb215, 1, none⟩) (Kd.R_far (p := ⟨gb215, 0, none⟩) (Kd.R_types HO_3.out BK215.out (by decide)) (fun _ hk => hk.2) (.string ((rd_T28 l0 x36_1).f0))) (fun _ hk => hk.2) (.int .i64 ((rd_T28 l0 x36_1).f1.f0))) (fun _ hk => hk.2) (.int .i64 ((rd_T28 l0 x36_1).f1.f1))) (fun _ hk => hk.2) (.int .i64 ((rd_T28 l0 x36_1).f1.f2))) (fun _ hk => hk.2) (.int .i64 ((rd_T28 l0 x36_1).f1.f3))) (fun _ hk => hk.2) (.int .i32 ((rd_T28 l0 x36_1).f1.f4))) (fun _ hk => hk.2) (.string ((rd_T28 l0 x36_1).f2))) (fun _ h_ => h_.1))) hb); have n1_ := Aside0.mk (blk_below (g := gb215) (o := .cells #[.string ((rd_T28 l0 x36_1).f0), .int .i64 ((rd_T28 l0 x36_1).f1.f0), .int .i64 ((rd_T28 l0 x36_1).f1.f1), .int .i64 ((rd_T28 l0 x36_1).f1.f2), .int .i64 ((rd_T28 l0 x36_1).f1.f3), .int .i32 ((rd_T28 l0 x36_1).f1.f4), .string ((rd_T28 l0 x36_1).f2)] 28 (0, 0)) (by (with_reducible repeat (first | refine blk_drewN ?_ _ | refine blk_drew ?_ | refine blk_alloc ?_ _)); refine blk_put (cs := #[.string ((rd_T28 l0 x36_1).f0), .int .i64 ((rd_T28 l0 x36_1).f1.f0), .int .i64 ((rd_T28 l0 x36_1).f1.f1), .int .i64 ((rd_T28 l0 x36_1).f1.f2), .int .i64 ((rd_T28 l0 x36_1).f1.f3), .int .i32 ((rd_T28 l0 x36_1).f1.f4), .string (⟨#[]⟩ : ByteArray)]) ?_ 6 _ rfl; (with_reducible repeat (first | refine blk_drewN ?_ _ | refine blk_drew ?_ | refine blk_alloc ?_ _)); refine blk_put (cs := #[.string ((rd_T28 l0 x36_1).f0), .int .i64 ((rd_T28 l0 x36_1).f1.f0), .int .i64 ((rd_T28 l0 x36_1).f1.f1), .int .i64 ((rd_T28 l0 x36_1).f1.f2), .int .i64 ((rd_T28 l0 x36_1).f1.f3), .int .i32 0, .string (⟨#[]⟩ : ByteArray)]) ?_ 5 _ rfl; (with_reducible repeat (first | refine blk_drewN ?_ _ | refine blk_drew ?_ | refine blk_alloc ?_ _)); refine blk_put (cs := #[.string ((rd_T28 l0 x36_1).f0), .int .i64 ((rd_T28 l0 x36_1).f1.f0), .int .i64 ((rd_T28 l0 x36_1).f1.f1), .int .i64 ((rd_T28 l0 x36_1).f1.f2), .int .i64 0, .int .i32 0, .string (⟨#[]⟩ : ByteArray)]) ?_ 4 _ rfl; (with_reducible repeat (first | refine blk_drewN ?_ _ | refine blk_drew ?_ | refine blk_alloc ?_ _)); refine blk_put (cs := #[.string ((rd_T28 l0 x36_1).f0), .int .i64 ((rd_T28 l0 x36_1).f1.f0), .int .i64 ((rd_T28 l0 x36_1).f1.f1), .int .i64 0, .int .i64 0, .int .i32 0, .string (⟨#[]⟩ : ByteArray)]) ?_ 3 _ rfl; (with_reducible repeat (first | refine blk_drewN ?_ _ | refine blk_drew ?_ | refine blk_alloc ?_ _)); refine blk_put (cs := #[.string ((rd_T28 l0 x36_1).f0), .int .i64 ((rd_T28 l0 x36_1).f1.f0), .int .i64 0, .int .i64 0, .int .i64 0, .int .i32 0, .string (⟨#[]⟩ : ByteArray)]) ?_ 2 _ rfl; (with_reducible repeat (first | refine blk_drewN ?_ _ | refine blk_drew ?_ | refine blk_alloc ?_ _)); refine blk_put (cs := #[.string ((rd_T28 l0 x36_1).f0), .int .i64 0, .int .i64 0, .int .i64 0, .int .i64 0, .int .i32 0, .string (⟨#[]⟩ : ByteArray)]) ?_ 1 _ rfl; (with_reducible repeat (first | refine blk_drewN ?_ _ | refine blk_drew ?_ | refine blk_alloc ?_ _)); refine blk_put (cs := #[.string (⟨#[]⟩ : ByteArray), .int .i64 0, .int .i64 0, .int .i64 0, .int .i64 0, .int .i32 0, .string (⟨#[]⟩ : ByteArray)]) ?_ 0 _ rfl; (with_reducible repeat (first | refine blk_drewN ?_ _ | refine blk_drew ?_ | refine blk_alloc ?_ _)); exact BK215.out) hb); have n2_ := Aside0.mk (below_step (by repeat (first | (with_reducible first | exact HB.out | apply below_alloc | apply pw_below_drewN | apply below_drew1 | refine below_set ?_ GE215.out) | exact HB.out)) hb); clear HO_3; clear BK215; clear HB; have HO_3 := n0_; have BK215 := n1_; have HB := n2_; clear n0_ n1_ n2_; (try clear hb); (try clear hb2); (try clear hk); (try clear hi)) | ((with_reducible refine gate_dst (N := 11) rfl ?_); refine box_event ?hg (N := 11) ?hd (cs := #[.int .i64 0, .int .i64 0, .int .i64 0, .int .i64 0, .int .i32 0]) (t := 26) ?hr ?_; (case hd => rfl); (case hg => rfl); (case hr => first | (go_simp; done) | (go_simp; rfl)); intro gb225 hg w34 hbox hb; have n0_ := Aside0.mk (Kd.R_below (by (with_reducible repeat (first | apply Kd.R_alloc | apply Kd.R_drewN | apply Kd.R_drew)); exact HO_3.out) hb); have n1_ := Aside0.mk (blk_below (g := gb215) (o := .cells #[.string ((rd_T28 l0 x36_1).f0), .int .i64 ((rd_T28 l0 x36_1).f1.f0), .int .i64 ((rd_T28 l0 x36_1).f1.f1), .int .i64 ((rd_T28 l0 x36_1).f1.f2), .int .i64 ((rd_T28 l0 x36_1).f1.f3), .int .i32 ((rd_T28 l0 x36_1).f1.f4), .string ((rd_T28 l0 x36_1).f2)] 28 (0, 0)) (by (with_reducible repeat (first | refine blk_drewN ?_ _ | refine blk_drew ?_ | refine blk_alloc ?_ _)); exact BK215.out) hb); have n2_ := Aside0.mk (below_step (by repeat (first | (with_reducible first | exact HB.out | apply below_alloc | apply pw_below_drewN | apply below_drew1 | refine below_set ?_ GE215.out) | exact HB.out)) hb); have n3_ := Aside0.mk (hbox); have n4_ := Aside0.mk ((by rw [hg]; exact (below_size (by repeat (first | (with_reducible first | exact HB.out | apply below_alloc | apply pw_below_drewN | apply below_drew1 | refine below_set ?_ GE215.out) | exact HB.out))) : w.heap.size ≤ gb225)); have n5_ := Aside0.mk ((by rw [hg]; exact (below_size (by repeat (first | (with_reducible first | exact HB.out | apply below_alloc | apply pw_below_drewN | apply below_drew1 | refine below_set ?_ GE215.out) | exact HB.out))) : w.heap.size ≤ gb225)); have n6_ := Aside0.mk ((by rw [hg]; exact Nat.ne_of_lt (blk_lt (g := gb215) (o := .cells #[.string ((rd_T28 l0 x36_1).f0), .int .i64 ((rd_T28 l0 x36_1).f1.f0), .int .i64 ((rd_T28 l0 x36_1).f1.f1), .int .i64 ((rd_T28 l0 x36_1).f1.f2), .int .i64 ((rd_T28 l0 x36_1).f1.f3), .int .i32 ((rd_T28 l0 x36_1).f1.f4), .string ((rd_T28 l0 x36_1).f2)] 28 (0, 0)) (by (with_reducible repeat (first | refine blk_drewN ?_ _ | refine blk_drew ?_ | refine blk_alloc ?_ _)); exact BK215.out)) : gb215 ≠ gb225)); have n7_ := Aside0.mk ((by rw [hg]; exact Nat.ne_of_gt (blk_lt (g := gb215) (o := .cells #[.string ((rd_T28 l0 x36_1).f0), .int .i64 ((rd_T28 l0 x36_1).f1.f0), .int .i64 ((rd_T28 l0 x36_1).f1.f1), .int .i64 ((rd_T28 l0 x36_1).f1.f2), .int .i64 ((rd_T28 l0 x36_1).f1.f3), .int .i32 ((rd_T28 l0 x36_1).f1.f4), .string ((rd_T28 l0 x36_1).f2)] 28 (0, 0)) (by (with_reducible repeat (first | refine blk_drewN ?_ _ | refine blk_drew ?_ | refine blk_alloc ?_ _)); exact BK215.out)) : gb225 ≠ gb215)); clear HO_3; clear BK215; clear HB; have HO_3 := n0_; have BK215 := n1_; have HB := n2_; have BK225 := n3_; have GW225 := n4_; have GE225 := n5_; have NB215_225 := n6_; have NB225_215 := n7_; clear n0_ n1_ n2_ n3_ n4_ n5_ n6_ n7_; clear hb hbox hg; have hnb35 := NB225_215.out; have hnc35 := NB215_225.out; have hcz36_0 : w34.cell? ⟨gb225, 0, none⟩ = some (.int .i64 0) := (blk_cell BK225.out 0).trans rfl; have hcz36_1 : w34.cell? ⟨gb225, 1, none⟩ = some (.int .i64 0) := (blk_cell BK225.out 1).trans rfl; have hcz36_2 : w34.cell? ⟨gb225, 2, none⟩ = some (.int .i64 0) := (blk_cell BK225.out 2).trans rfl; have hcz36_3 : w34.cell? ⟨gb225, 3, none⟩ = some (.int .i64 0) := (blk_cell BK225.out 3).trans rfl; have hcz36_4 : w34.cell? ⟨gb225, 4, none⟩ = some (.int .i32 0) := (blk_cell BK225.out 4).trans rfl; have hfz36_0 := blk_frozen BK225.out 0; have hfz36_1 := blk_frozen BK225.out 1; have hfz36_2 := blk_frozen BK225.out 2; have hfz36_3 := blk_frozen BK225.out 3; have hfz36_4 := blk_frozen BK225.out 4; have hcz37_0 : w34.cell? ⟨gb215, 0, none⟩ = some (.string ((rd_T28 l0 x36_1).f0)) := (blk_cell BK215.out 0).trans rfl; have hcz37_1 : w34.cell? ⟨gb215, 1, none⟩ = some (.int .i64 ((rd_T28 l0 x36_1).f1.f0)) := (blk_cell BK215.out 1).trans rfl; have hcz37_2 : w34.cell? ⟨gb215, 2, none⟩ = some (.int .i64 ((rd_T28 l0 x36_1).f1.f1)) := (blk_cell BK215.out 2).trans rfl; have hcz37_3 : w34.cell? ⟨gb215, 3, none⟩ = some (.int .i64 ((rd_T28 l0 x36_1).f1.f2)) := (blk_cell BK215.out 3).trans rfl; have hcz37_4 : w34.cell? ⟨gb215, 4, none⟩ = some (.int .i64 ((rd_T28 l0 x36_1).f1.f3)) := (blk_cell BK215.out 4).trans rfl; have hcz37_5 : w34.cell? ⟨gb215, 5, none⟩ = some (.int .i32 ((rd_T28 l0 x36_1).f1.f4)) := (blk_cell BK215.out 5).trans rfl; have hcz37_6 : w34.cell? ⟨gb215, 6, none⟩ = some (.string ((rd_T28 l0 x36_1).f2)) := (blk_cell BK215.out 6).trans rfl; have hfz37_0 := blk_frozen BK215.out 0; have hfz37_1 := blk_frozen BK215.out 1; have hfz37_2 := blk_frozen BK215.out 2; have hfz37_3 := blk_frozen BK215.out 3; have hfz37_4 := blk_frozen BK215.out 4; have hfz37_5 := blk_frozen BK215.out 5; have hfz37_6 := blk_frozen BK215.out 6))
                              go_roundg k1
                              case measure => have := HK1.out; omega
                              case rel => exact ⟨(wrap64 (x6_1 + 1)), (wrap64 (x36_1 + 1)), (by first | rfl | (simp; done) | (simp [*]; done)), (by first | rfl | (simp; done) | (simp [*]; done)), H', ⟨by have := HK1.out; omega⟩, ⟨by (with_reducible repeat (first | apply Kd.R_alloc | apply Kd.R_drewN | apply Kd.R_drew)); exact Kd.R_mono (Kd.R_far (p := ⟨gb225, 4, none⟩) (Kd.R_far (p := ⟨gb225, 3, none⟩) (Kd.R_far (p := ⟨gb225, 2, none⟩) (Kd.R_far (p := ⟨gb225, 1, none⟩) (Kd.R_far (p := ⟨gb225, 0, none⟩) (Kd.R_types HO_3.out BK225.out (by decide)) (fun _ hk => hk.2) (.int .i64 t219)) (fun _ hk => hk.2) (.int .i64 t220)) (fun _ hk => hk.2) (.int .i64 t221)) (fun _ hk => hk.2) (.int .i64 t222)) (fun _ hk => hk.2) (.int .i32 t223)) (fun _ hk => trivial)⟩, ⟨by repeat (first | (with_reducible first | exact HB.out | apply below_alloc | apply pw_below_drewN | apply below_drew1 | refine below_set ?_ GE215.out | refine below_set ?_ GE225.out) | exact HB.out)⟩⟩
                          · rw [if_neg c20] at H
                            have c20b0 : (((rd_T28 l0 x36_1).f2).toList == ([] : List UInt8)) = false := beq_eq_false_iff_ne.mpr c20
                            have c20b1 : (((rd_T28 l0 x36_1).f2).toList != ([] : List UInt8)) = true := bne_iff_ne.mpr c20
                            replace H := Option.bind_eq_some_iff.mp H
                            obtain ⟨⟨t226, t227⟩, A380, H⟩ := H
                            replace H : (if t219 = 1 then (curtilagelaw10_AsmGoes.j1 k1 l0 t207 x6_1 t226 t227 (wrap64 ((wrap64 (t223)) - (wrap64 ((rd_T28 l0 x36_1).f1.f4)))) l0 (l0.length : Int) x36_1 ((rd_T28 l0 x36_1).f0) ((rd_T28 l0 x36_1).f1.f0) ((rd_T28 l0 x36_1).f1.f1) ((rd_T28 l0 x36_1).f1.f2) ((rd_T28 l0 x36_1).f1.f3) ((rd_T28 l0 x36_1).f1.f4) ((rd_T28 l0 x36_1).f2) t219 t220 t221 t222 t223) else (curtilagelaw10_AsmGoes.j1 k1 l0 t207 x6_1 t226 t227 (wrap64 ((wrap64 (x6_1 + 1)) + (wrap64 (t223)))) l0 (l0.length : Int) x36_1 ((rd_T28 l0 x36_1).f0) ((rd_T28 l0 x36_1).f1.f0) ((rd_T28 l0 x36_1).f1.f1) ((rd_T28 l0 x36_1).f1.f2) ((rd_T28 l0 x36_1).f1.f3) ((rd_T28 l0 x36_1).f1.f4) ((rd_T28 l0 x36_1).f2) t219 t220 t221 t222 t223)) = some r := H
                            have A38 := Aside0.mk A380
                            clear A380
                            have HC39 := Aside0.mk H
                            clear H
                            have p214 : 0 ≤ (x36_1 : Int) := of_decide_eq_true (by first | (with_reducible assumption) | assumption)
                            have q214 : x36_1 < (l0.length : Int) := of_decide_eq_true (by first | (with_reducible assumption) | assumption)
                            obtain ⟨ad214, e214, hx214_0, hx214_1, hx214_2, hx214_3, hx214_4, hx214_5, hx214_6⟩ := at_T28 HR0.out x36_1 p214 q214
                            cases e214
                            replace hx214_0 := (HB.out.cell (World.block_lt_of_cell? w _ hx214_0)).trans hx214_0
                            replace hx214_1 := (HB.out.cell (World.block_lt_of_cell? w _ hx214_1)).trans hx214_1
                            replace hx214_2 := (HB.out.cell (World.block_lt_of_cell? w _ hx214_2)).trans hx214_2
                            replace hx214_3 := (HB.out.cell (World.block_lt_of_cell? w _ hx214_3)).trans hx214_3
                            replace hx214_4 := (HB.out.cell (World.block_lt_of_cell? w _ hx214_4)).trans hx214_4
                            replace hx214_5 := (HB.out.cell (World.block_lt_of_cell? w _ hx214_5)).trans hx214_5
                            replace hx214_6 := (HB.out.cell (World.block_lt_of_cell? w _ hx214_6)).trans hx214_6
                            replace p214 := eq_true p214
                            replace q214 := eq_true q214
                            go_upto_if 89 with (first | ((with_reducible refine gate_dst (N := 8) rfl ?_); refine box_event ?hg (N := 8) ?hd (cs := #[.string (⟨#[]⟩ : ByteArray), .int .i64 0, .int .i64 0, .int .i64 0, .int .i64 0, .int .i32 0, .string (⟨#[]⟩ : ByteArray)]) (t := 28) ?hr ?_; (case hd => rfl); (case hg => rfl); (case hr => first | (go_simp; done) | (go_simp; rfl)); intro gb215 hg w40 hbox hb; have n0_ := Aside0.mk (Kd.R_below (by (with_reducible repeat (first | apply Kd.R_alloc | apply Kd.R_drewN | apply Kd.R_drew)); exact HO_3.out) hb); have n1_ := Aside0.mk (below_step (by repeat (first | (with_reducible first | exact HB.out | apply below_alloc | apply pw_below_drewN | apply below_drew1) | exact HB.out)) hb); have n2_ := Aside0.mk (hbox); have n3_ := Aside0.mk ((by rw [hg]; exact (below_size (by repeat (first | (with_reducible first | exact HB.out | apply below_alloc | apply pw_below_drewN | apply below_drew1) | exact HB.out))) : w.heap.size ≤ gb215)); have n4_ := Aside0.mk ((by rw [hg]; exact (below_size (by repeat (first | (with_reducible first | exact HB.out | apply below_alloc | apply pw_below_drewN | apply below_drew1) | exact HB.out))) : w.heap.size ≤ gb215)); clear HO_3; clear HB; have HO_3 := n0_; have HB := n1_; have BK215 := n2_; have GW215 := n3_; have GE215 := n4_; clear n0_ n1_ n2_ n3_ n4_; clear hb hbox hg; have hcz41_0 : w40.cell? ⟨gb215, 0, none⟩ = some (.string (⟨#[]⟩ : ByteArray)) := (blk_cell BK215.out 0).trans rfl; have hcz41_1 : w40.cell? ⟨gb215, 1, none⟩ = some (.int .i64 0) := (blk_cell BK215.out 1).trans rfl; have hcz41_2 : w40.cell? ⟨gb215, 2, none⟩ = some (.int .i64 0) := (blk_cell BK215.out 2).trans rfl; have hcz41_3 : w40.cell? ⟨gb215, 3, none⟩ = some (.int .i64 0) := (blk_cell BK215.out 3).trans rfl; have hcz41_4 : w40.cell? ⟨gb215, 4, none⟩ = some (.int .i64 0) := (blk_cell BK215.out 4).trans rfl; have hcz41_5 : w40.cell? ⟨gb215, 5, none⟩ = some (.int .i32 0) := (blk_cell BK215.out 5).trans rfl; have hcz41_6 : w40.cell? ⟨gb215, 6, none⟩ = some (.string (⟨#[]⟩ : ByteArray)) := (blk_cell BK215.out 6).trans rfl; have hfz41_0 := blk_frozen BK215.out 0; have hfz41_1 := blk_frozen BK215.out 1; have hfz41_2 := blk_frozen BK215.out 2; have hfz41_3 := blk_frozen BK215.out 3; have hfz41_4 := blk_frozen BK215.out 4; have hfz41_5 := blk_frozen BK215.out 5; have hfz41_6 := blk_frozen BK215.out 6; obtain ⟨Ao42, co42, eo42⟩ := Kd.R_slice HO_3.out; subst eo42; have p218 : 0 ≤ (x6_1 : Int) := of_decide_eq_true (by first | (with_reducible assumption) | assumption); have q218 : x6_1 < (t207.length : Int) := of_decide_eq_true (by first | (with_reducible assumption) | assumption); obtain ⟨ad218, e218, hx218_0⟩ := Kd.at_int (Kd.R_reads' HO_3.out).2.2 x6_1 p218 q218; cases e218; have hn218_0 : ad218.block ≠ gb215 := Kd.own_blk (Kd.R_ne HO_3.out BK215.out (by decide)); have hn218_1 : ad218.block ≠ gb215 := Kd.own_blk (Kd.R_ne HO_3.out BK215.out (by decide)); have hn218_2 : ad218.block ≠ gb215 := Kd.own_blk (Kd.R_ne HO_3.out BK215.out (by decide)); have hn218_3 : ad218.block ≠ gb215 := Kd.own_blk (Kd.R_ne HO_3.out BK215.out (by decide)); have hn218_4 : ad218.block ≠ gb215 := Kd.own_blk (Kd.R_ne HO_3.out BK215.out (by decide)); have hn218_5 : ad218.block ≠ gb215 := Kd.own_blk (Kd.R_ne HO_3.out BK215.out (by decide)); have hn218_6 : ad218.block ≠ gb215 := Kd.own_blk (Kd.R_ne HO_3.out BK215.out (by decide)); replace hx218_0 := (cell_far (p := ⟨gb215, 0, none⟩) (by first | (rw [add_block]; exact hn218_0) | (show (Addr.add _ _).block ≠ _; rw [add_block]; exact hn218_0) | exact hn218_0) (.string ((rd_T28 l0 x36_1).f0))).trans hx218_0; replace hx218_0 := (cell_far (p := ⟨gb215, 1, none⟩) (by first | (rw [add_block]; exact hn218_1) | (show (Addr.add _ _).block ≠ _; rw [add_block]; exact hn218_1) | exact hn218_1) (.int .i64 ((rd_T28 l0 x36_1).f1.f0))).trans hx218_0; replace hx218_0 := (cell_far (p := ⟨gb215, 2, none⟩) (by first | (rw [add_block]; exact hn218_2) | (show (Addr.add _ _).block ≠ _; rw [add_block]; exact hn218_2) | exact hn218_2) (.int .i64 ((rd_T28 l0 x36_1).f1.f1))).trans hx218_0; replace hx218_0 := (cell_far (p := ⟨gb215, 3, none⟩) (by first | (rw [add_block]; exact hn218_3) | (show (Addr.add _ _).block ≠ _; rw [add_block]; exact hn218_3) | exact hn218_3) (.int .i64 ((rd_T28 l0 x36_1).f1.f2))).trans hx218_0; replace hx218_0 := (cell_far (p := ⟨gb215, 4, none⟩) (by first | (rw [add_block]; exact hn218_4) | (show (Addr.add _ _).block ≠ _; rw [add_block]; exact hn218_4) | exact hn218_4) (.int .i64 ((rd_T28 l0 x36_1).f1.f3))).trans hx218_0; replace hx218_0 := (cell_far (p := ⟨gb215, 5, none⟩) (by first | (rw [add_block]; exact hn218_5) | (show (Addr.add _ _).block ≠ _; rw [add_block]; exact hn218_5) | exact hn218_5) (.int .i32 ((rd_T28 l0 x36_1).f1.f4))).trans hx218_0; replace hx218_0 := (cell_far (p := ⟨gb215, 6, none⟩) (by first | (rw [add_block]; exact hn218_6) | (show (Addr.add _ _).block ≠ _; rw [add_block]; exact hn218_6) | exact hn218_6) (.string ((rd_T28 l0 x36_1).f2))).trans hx218_0; clear hn218_0; clear hn218_1; clear hn218_2; clear hn218_3; clear hn218_4; clear hn218_5; clear hn218_6; replace p218 := eq_true p218; replace q218 := eq_true q218) | ((with_reducible refine gate_callee (f := 11) rfl ?_); refine goesL_ (some 66) rfl rfl Tryd.func11 (by kernel_rfl) rfl #[.int .u64 (rd t207 x6_1)] rfl (by (try simp only [List.map_toArray, List.map_cons, List.map_nil]); first | done | rfl | (simp only [List.length_drop, List.length_take]; rfl)) ?_; (with_reducible refine (curtilageref08_Decode.calls k1 (rd t207 x6_1) t219 t220 t221 t222 t223 true _ A18.out).mono ?_); rintro e w43 ⟨rfl, hb⟩; refine ⟨_, rfl, ?_⟩; have n0_ := Aside0.mk (Kd.R_below (by (with_reducible repeat (first | apply Kd.R_alloc | apply Kd.R_drewN | apply Kd.R_drew)); exact (Kd.R_mono (Kd.R_far (p := ⟨gb215, 6, none⟩) (Kd.R_far (p := ⟨gb215, 5, none⟩) (Kd.R_far (p := ⟨gb215, 4, none⟩) (Kd.R_far (p := ⟨gb215, 3, none⟩) (Kd.R_far (p := ⟨gb215, 2, none⟩) (Kd.R_far (p := ⟨gb215, 1, none⟩) (Kd.R_far (p := ⟨gb215, 0, none⟩) (Kd.R_types HO_3.out BK215.out (by decide)) (fun _ hk => hk.2) (.string ((rd_T28 l0 x36_1).f0))) (fun _ hk => hk.2) (.int .i64 ((rd_T28 l0 x36_1).f1.f0))) (fun _ hk => hk.2) (.int .i64 ((rd_T28 l0 x36_1).f1.f1))) (fun _ hk => hk.2) (.int .i64 ((rd_T28 l0 x36_1).f1.f2))) (fun _ hk => hk.2) (.int .i64 ((rd_T28 l0 x36_1).f1.f3))) (fun _ hk => hk.2) (.int .i32 ((rd_T28 l0 x36_1).f1.f4))) (fun _ hk => hk.2) (.string ((rd_T28 l0 x36_1).f2))) (fun _ h_ => h_.1))) hb); have n1_ := Aside0.mk (blk_below (g := gb215) (o := .cells #[.string ((rd_T28 l0 x36_1).f0), .int .i64 ((rd_T28 l0 x36_1).f1.f0), .int .i64 ((rd_T28 l0 x36_1).f1.f1), .int .i64 ((rd_T28 l0 x36_1).f1.f2), .int .i64 ((rd_T28 l0 x36_1).f1.f3), .int .i32 ((rd_T28 l0 x36_1).f1.f4), .string ((rd_T28 l0 x36_1).f2)] 28 (0, 0)) (by (with_reducible repeat (first | refine blk_drewN ?_ _ | refine blk_drew ?_ | refine blk_alloc ?_ _)); refine blk_put (cs := #[.string ((rd_T28 l0 x36_1).f0), .int .i64 ((rd_T28 l0 x36_1).f1.f0), .int .i64 ((rd_T28 l0 x36_1).f1.f1), .int .i64 ((rd_T28 l0 x36_1).f1.f2), .int .i64 ((rd_T28 l0 x36_1).f1.f3), .int .i32 ((rd_T28 l0 x36_1).f1.f4), .string (⟨#[]⟩ : ByteArray)]) ?_ 6 _ rfl; (with_reducible repeat (first | refine blk_drewN ?_ _ | refine blk_drew ?_ | refine blk_alloc ?_ _)); refine blk_put (cs := #[.string ((rd_T28 l0 x36_1).f0), .int .i64 ((rd_T28 l0 x36_1).f1.f0), .int .i64 ((rd_T28 l0 x36_1).f1.f1), .int .i64 ((rd_T28 l0 x36_1).f1.f2), .int .i64 ((rd_T28 l0 x36_1).f1.f3), .int .i32 0, .string (⟨#[]⟩ : ByteArray)]) ?_ 5 _ rfl; (with_reducible repeat (first | refine blk_drewN ?_ _ | refine blk_drew ?_ | refine blk_alloc ?_ _)); refine blk_put (cs := #[.string ((rd_T28 l0 x36_1).f0), .int .i64 ((rd_T28 l0 x36_1).f1.f0), .int .i64 ((rd_T28 l0 x36_1).f1.f1), .int .i64 ((rd_T28 l0 x36_1).f1.f2), .int .i64 0, .int .i32 0, .string (⟨#[]⟩ : ByteArray)]) ?_ 4 _ rfl; (with_reducible repeat (first | refine blk_drewN ?_ _ | refine blk_drew ?_ | refine blk_alloc ?_ _)); refine blk_put (cs := #[.string ((rd_T28 l0 x36_1).f0), .int .i64 ((rd_T28 l0 x36_1).f1.f0), .int .i64 ((rd_T28 l0 x36_1).f1.f1), .int .i64 0, .int .i64 0, .int .i32 0, .string (⟨#[]⟩ : ByteArray)]) ?_ 3 _ rfl; (with_reducible repeat (first | refine blk_drewN ?_ _ | refine blk_drew ?_ | refine blk_alloc ?_ _)); refine blk_put (cs := #[.string ((rd_T28 l0 x36_1).f0), .int .i64 ((rd_T28 l0 x36_1).f1.f0), .int .i64 0, .int .i64 0, .int .i64 0, .int .i32 0, .string (⟨#[]⟩ : ByteArray)]) ?_ 2 _ rfl; (with_reducible repeat (first | refine blk_drewN ?_ _ | refine blk_drew ?_ | refine blk_alloc ?_ _)); refine blk_put (cs := #[.string ((rd_T28 l0 x36_1).f0), .int .i64 0, .int .i64 0, .int .i64 0, .int .i64 0, .int .i32 0, .string (⟨#[]⟩ : ByteArray)]) ?_ 1 _ rfl; (with_reducible repeat (first | refine blk_drewN ?_ _ | refine blk_drew ?_ | refine blk_alloc ?_ _)); refine blk_put (cs := #[.string (⟨#[]⟩ : ByteArray), .int .i64 0, .int .i64 0, .int .i64 0, .int .i64 0, .int .i32 0, .string (⟨#[]⟩ : ByteArray)]) ?_ 0 _ rfl; (with_reducible repeat (first | refine blk_drewN ?_ _ | refine blk_drew ?_ | refine blk_alloc ?_ _)); exact BK215.out) hb); have n2_ := Aside0.mk (below_step (by repeat (first | (with_reducible first | exact HB.out | apply below_alloc | apply pw_below_drewN | apply below_drew1 | refine below_set ?_ GE215.out) | exact HB.out)) hb); clear HO_3; clear BK215; clear HB; have HO_3 := n0_; have BK215 := n1_; have HB := n2_; clear n0_ n1_ n2_; (try clear hb); (try clear hb2); (try clear hk); (try clear hi)) | ((with_reducible refine gate_dst (N := 11) rfl ?_); refine box_event ?hg (N := 11) ?hd (cs := #[.int .i64 0, .int .i64 0, .int .i64 0, .int .i64 0, .int .i32 0]) (t := 26) ?hr ?_; (case hd => rfl); (case hg => rfl); (case hr => first | (go_simp; done) | (go_simp; rfl)); intro gb225 hg w44 hbox hb; have n0_ := Aside0.mk (Kd.R_below (by (with_reducible repeat (first | apply Kd.R_alloc | apply Kd.R_drewN | apply Kd.R_drew)); exact HO_3.out) hb); have n1_ := Aside0.mk (blk_below (g := gb215) (o := .cells #[.string ((rd_T28 l0 x36_1).f0), .int .i64 ((rd_T28 l0 x36_1).f1.f0), .int .i64 ((rd_T28 l0 x36_1).f1.f1), .int .i64 ((rd_T28 l0 x36_1).f1.f2), .int .i64 ((rd_T28 l0 x36_1).f1.f3), .int .i32 ((rd_T28 l0 x36_1).f1.f4), .string ((rd_T28 l0 x36_1).f2)] 28 (0, 0)) (by (with_reducible repeat (first | refine blk_drewN ?_ _ | refine blk_drew ?_ | refine blk_alloc ?_ _)); exact BK215.out) hb); have n2_ := Aside0.mk (below_step (by repeat (first | (with_reducible first | exact HB.out | apply below_alloc | apply pw_below_drewN | apply below_drew1 | refine below_set ?_ GE215.out) | exact HB.out)) hb); have n3_ := Aside0.mk (hbox); have n4_ := Aside0.mk ((by rw [hg]; exact (below_size (by repeat (first | (with_reducible first | exact HB.out | apply below_alloc | apply pw_below_drewN | apply below_drew1 | refine below_set ?_ GE215.out) | exact HB.out))) : w.heap.size ≤ gb225)); have n5_ := Aside0.mk ((by rw [hg]; exact (below_size (by repeat (first | (with_reducible first | exact HB.out | apply below_alloc | apply pw_below_drewN | apply below_drew1 | refine below_set ?_ GE215.out) | exact HB.out))) : w.heap.size ≤ gb225)); have n6_ := Aside0.mk ((by rw [hg]; exact Nat.ne_of_lt (blk_lt (g := gb215) (o := .cells #[.string ((rd_T28 l0 x36_1).f0), .int .i64 ((rd_T28 l0 x36_1).f1.f0), .int .i64 ((rd_T28 l0 x36_1).f1.f1), .int .i64 ((rd_T28 l0 x36_1).f1.f2), .int .i64 ((rd_T28 l0 x36_1).f1.f3), .int .i32 ((rd_T28 l0 x36_1).f1.f4), .string ((rd_T28 l0 x36_1).f2)] 28 (0, 0)) (by (with_reducible repeat (first | refine blk_drewN ?_ _ | refine blk_drew ?_ | refine blk_alloc ?_ _)); exact BK215.out)) : gb215 ≠ gb225)); have n7_ := Aside0.mk ((by rw [hg]; exact Nat.ne_of_gt (blk_lt (g := gb215) (o := .cells #[.string ((rd_T28 l0 x36_1).f0), .int .i64 ((rd_T28 l0 x36_1).f1.f0), .int .i64 ((rd_T28 l0 x36_1).f1.f1), .int .i64 ((rd_T28 l0 x36_1).f1.f2), .int .i64 ((rd_T28 l0 x36_1).f1.f3), .int .i32 ((rd_T28 l0 x36_1).f1.f4), .string ((rd_T28 l0 x36_1).f2)] 28 (0, 0)) (by (with_reducible repeat (first | refine blk_drewN ?_ _ | refine blk_drew ?_ | refine blk_alloc ?_ _)); exact BK215.out)) : gb225 ≠ gb215)); clear HO_3; clear BK215; clear HB; have HO_3 := n0_; have BK215 := n1_; have HB := n2_; have BK225 := n3_; have GW225 := n4_; have GE225 := n5_; have NB215_225 := n6_; have NB225_215 := n7_; clear n0_ n1_ n2_ n3_ n4_ n5_ n6_ n7_; clear hb hbox hg; have hnb45 := NB225_215.out; have hnc45 := NB215_225.out; have hcz46_0 : w44.cell? ⟨gb225, 0, none⟩ = some (.int .i64 0) := (blk_cell BK225.out 0).trans rfl; have hcz46_1 : w44.cell? ⟨gb225, 1, none⟩ = some (.int .i64 0) := (blk_cell BK225.out 1).trans rfl; have hcz46_2 : w44.cell? ⟨gb225, 2, none⟩ = some (.int .i64 0) := (blk_cell BK225.out 2).trans rfl; have hcz46_3 : w44.cell? ⟨gb225, 3, none⟩ = some (.int .i64 0) := (blk_cell BK225.out 3).trans rfl; have hcz46_4 : w44.cell? ⟨gb225, 4, none⟩ = some (.int .i32 0) := (blk_cell BK225.out 4).trans rfl; have hfz46_0 := blk_frozen BK225.out 0; have hfz46_1 := blk_frozen BK225.out 1; have hfz46_2 := blk_frozen BK225.out 2; have hfz46_3 := blk_frozen BK225.out 3; have hfz46_4 := blk_frozen BK225.out 4; have hcz47_0 : w44.cell? ⟨gb215, 0, none⟩ = some (.string ((rd_T28 l0 x36_1).f0)) := (blk_cell BK215.out 0).trans rfl; have hcz47_1 : w44.cell? ⟨gb215, 1, none⟩ = some (.int .i64 ((rd_T28 l0 x36_1).f1.f0)) := (blk_cell BK215.out 1).trans rfl; have hcz47_2 : w44.cell? ⟨gb215, 2, none⟩ = some (.int .i64 ((rd_T28 l0 x36_1).f1.f1)) := (blk_cell BK215.out 2).trans rfl; have hcz47_3 : w44.cell? ⟨gb215, 3, none⟩ = some (.int .i64 ((rd_T28 l0 x36_1).f1.f2)) := (blk_cell BK215.out 3).trans rfl; have hcz47_4 : w44.cell? ⟨gb215, 4, none⟩ = some (.int .i64 ((rd_T28 l0 x36_1).f1.f3)) := (blk_cell BK215.out 4).trans rfl; have hcz47_5 : w44.cell? ⟨gb215, 5, none⟩ = some (.int .i32 ((rd_T28 l0 x36_1).f1.f4)) := (blk_cell BK215.out 5).trans rfl; have hcz47_6 : w44.cell? ⟨gb215, 6, none⟩ = some (.string ((rd_T28 l0 x36_1).f2)) := (blk_cell BK215.out 6).trans rfl; have hfz47_0 := blk_frozen BK215.out 0; have hfz47_1 := blk_frozen BK215.out 1; have hfz47_2 := blk_frozen BK215.out 2; have hfz47_3 := blk_frozen BK215.out 3; have hfz47_4 := blk_frozen BK215.out 4; have hfz47_5 := blk_frozen BK215.out 5; have hfz47_6 := blk_frozen BK215.out 6) | ((with_reducible refine gate_callee (f := 10) rfl ?_); refine goesL_ (some 78) rfl rfl Tryd.func10 (by kernel_rfl) rfl #[.slice (some ad214) l0.length c0, .string ((rd_T28 l0 x36_1).f2)] rfl (by (try simp only [List.map_toArray, List.map_cons, List.map_nil]); first | done | rfl | (simp only [List.length_drop, List.length_take]; rfl)) ?_; (with_reducible refine (asm_Find.calls _ _ l0 ((rd_T28 l0 x36_1).f2) t226 t227 _ ?side1 ?side2 A38.out).mono ?_); (case side1 => exact Kd.C_below HR0.out (by repeat (first | (with_reducible first | exact HB.out | apply below_alloc | apply pw_below_drewN | apply below_drew1 | refine below_set ?_ GE215.out | refine below_set ?_ GE225.out) | exact HB.out))); (case side2 => exact HC0.out); rintro e w48 ⟨rfl, hb⟩; refine ⟨_, rfl, ?_⟩; have n0_ := Aside0.mk (Kd.R_below (by (with_reducible repeat (first | apply Kd.R_alloc | apply Kd.R_drewN | apply Kd.R_drew)); exact (Kd.R_mono (Kd.R_far (p := ⟨gb225, 4, none⟩) (Kd.R_far (p := ⟨gb225, 3, none⟩) (Kd.R_far (p := ⟨gb225, 2, none⟩) (Kd.R_far (p := ⟨gb225, 1, none⟩) (Kd.R_far (p := ⟨gb225, 0, none⟩) (Kd.R_types HO_3.out BK225.out (by decide)) (fun _ hk => hk.2) (.int .i64 t219)) (fun _ hk => hk.2) (.int .i64 t220)) (fun _ hk => hk.2) (.int .i64 t221)) (fun _ hk => hk.2) (.int .i64 t222)) (fun _ hk => hk.2) (.int .i32 t223)) (fun _ h_ => h_.1))) hb); have n1_ := Aside0.mk (blk_below (g := gb215) (o := .cells #[.string ((rd_T28 l0 x36_1).f0), .int .i64 ((rd_T28 l0 x36_1).f1.f0), .int .i64 ((rd_T28 l0 x36_1).f1.f1), .int .i64 ((rd_T28 l0 x36_1).f1.f2), .int .i64 ((rd_T28 l0 x36_1).f1.f3), .int .i32 ((rd_T28 l0 x36_1).f1.f4), .string ((rd_T28 l0 x36_1).f2)] 28 (0, 0)) (by (with_reducible repeat (first | refine blk_drewN ?_ _ | refine blk_drew ?_ | refine blk_alloc ?_ _)); refine blk_far ?_ NB215_225.out _; (with_reducible repeat (first | refine blk_drewN ?_ _ | refine blk_drew ?_ | refine blk_alloc ?_ _)); refine blk_far ?_ NB215_225.out _; (with_reducible repeat (first | refine blk_drewN ?_ _ | refine blk_drew ?_ | refine blk_alloc ?_ _)); refine blk_far ?_ NB215_225.out _; (with_reducible repeat (first | refine blk_drewN ?_ _ | refine blk_drew ?_ | refine blk_alloc ?_ _)); refine blk_far ?_ NB215_225.out _; (with_reducible repeat (first | refine blk_drewN ?_ _ | refine blk_drew ?_ | refine blk_alloc ?_ _)); refine blk_far ?_ NB215_225.out _; (with_reducible repeat (first | refine blk_drewN ?_ _ | refine blk_drew ?_ | refine blk_alloc ?_ _)); exact BK215.out) hb); have n2_ := Aside0.mk (blk_below (g := gb225) (o := .cells #[.int .i64 t219, .int .i64 t220, .int .i64 t221, .int .i64 t222, .int .i32 t223] 26 (0, 0)) (by (with_reducible repeat (first | refine blk_drewN ?_ _ | refine blk_drew ?_ | refine blk_alloc ?_ _)); refine blk_put (cs := #[.int .i64 t219, .int .i64 t220, .int .i64 t221, .int .i64 t222, .int .i32 0]) ?_ 4 _ rfl; (with_reducible repeat (first | refine blk_drewN ?_ _ | refine blk_drew ?_ | refine blk_alloc ?_ _)); refine blk_put (cs := #[.int .i64 t219, .int .i64 t220, .int .i64 t221, .int .i64 0, .int .i32 0]) ?_ 3 _ rfl; (with_reducible repeat (first | refine blk_drewN ?_ _ | refine blk_drew ?_ | refine blk_alloc ?_ _)); refine blk_put (cs := #[.int .i64 t219, .int .i64 t220, .int .i64 0, .int .i64 0, .int .i32 0]) ?_ 2 _ rfl; (with_reducible repeat (first | refine blk_drewN ?_ _ | refine blk_drew ?_ | refine blk_alloc ?_ _)); refine blk_put (cs := #[.int .i64 t219, .int .i64 0, .int .i64 0, .int .i64 0, .int .i32 0]) ?_ 1 _ rfl; (with_reducible repeat (first | refine blk_drewN ?_ _ | refine blk_drew ?_ | refine blk_alloc ?_ _)); refine blk_put (cs := #[.int .i64 0, .int .i64 0, .int .i64 0, .int .i64 0, .int .i32 0]) ?_ 0 _ rfl; (with_reducible repeat (first | refine blk_drewN ?_ _ | refine blk_drew ?_ | refine blk_alloc ?_ _)); exact BK225.out) hb); have n3_ := Aside0.mk (below_step (by repeat (first | (with_reducible first | exact HB.out | apply below_alloc | apply pw_below_drewN | apply below_drew1 | refine below_set ?_ GE215.out | refine below_set ?_ GE225.out) | exact HB.out)) hb); clear HO_3; clear BK215; clear BK225; clear HB; have HO_3 := n0_; have BK215 := n1_; have BK225 := n2_; have HB := n3_; clear n0_ n1_ n2_ n3_; (try clear hb); (try clear hb2); (try clear hk); (try clear hi); have hcz49_0 : w48.cell? ⟨gb225, 0, none⟩ = some (.int .i64 t219) := (blk_cell BK225.out 0).trans rfl; have hcz49_1 : w48.cell? ⟨gb225, 1, none⟩ = some (.int .i64 t220) := (blk_cell BK225.out 1).trans rfl; have hcz49_2 : w48.cell? ⟨gb225, 2, none⟩ = some (.int .i64 t221) := (blk_cell BK225.out 2).trans rfl; have hcz49_3 : w48.cell? ⟨gb225, 3, none⟩ = some (.int .i64 t222) := (blk_cell BK225.out 3).trans rfl; have hcz49_4 : w48.cell? ⟨gb225, 4, none⟩ = some (.int .i32 t223) := (blk_cell BK225.out 4).trans rfl; have hfz49_0 := blk_frozen BK225.out 0; have hfz49_1 := blk_frozen BK225.out 1; have hfz49_2 := blk_frozen BK225.out 2; have hfz49_3 := blk_frozen BK225.out 3; have hfz49_4 := blk_frozen BK225.out 4))
                            (try simp only [Act.put, List.setIfInBounds_toArray, List.set_cons_zero, List.set_cons_succ])
                            go_cut [15] (fun v15 wc => ∃ (kq : Nat) (x15_38 : Int), v15 = .int .i64 x15_38 ∧ Aside0 (curtilagelaw10_AsmGoes.j1 kq l0 t207 x6_1 t226 t227 x15_38 l0 (l0.length : Int) x36_1 ((rd_T28 l0 x36_1).f0) ((rd_T28 l0 x36_1).f1.f0) ((rd_T28 l0 x36_1).f1.f1) ((rd_T28 l0 x36_1).f1.f2) ((rd_T28 l0 x36_1).f1.f3) ((rd_T28 l0 x36_1).f1.f4) ((rd_T28 l0 x36_1).f2) t219 t220 t221 t222 t223 = some r) ∧ Aside0 (kq ≤ k1) ∧ Aside0 (Kd.R (Kd.int .u64) 40 wc w.heap.size (fun _ => True) (.slice (some ad218) t207.length co42) t207) ∧ Aside0 (wc.heap[gb215]? = some (.cells #[.string ((rd_T28 l0 x36_1).f0), .int .i64 ((rd_T28 l0 x36_1).f1.f0), .int .i64 ((rd_T28 l0 x36_1).f1.f1), .int .i64 ((rd_T28 l0 x36_1).f1.f2), .int .i64 ((rd_T28 l0 x36_1).f1.f3), .int .i32 ((rd_T28 l0 x36_1).f1.f4), .string ((rd_T28 l0 x36_1).f2)] 28 (0, 0))) ∧ Aside0 (wc.heap[gb225]? = some (.cells #[.int .i64 t219, .int .i64 t220, .int .i64 t221, .int .i64 t222, .int .i32 t223] 26 (0, 0))) ∧ Aside0 (Below w.heap.size w wc))
                            case first =>
                              have H := HC39.out
                              clear HC39
                              by_cases c50 : t219 = 1
                              · rw [if_pos c50] at H
                                have c50b0 : (t219 == 1) = true := beq_iff_eq.mpr c50
                                have c50b1 : (t219 != 1) = false := bne_eq_false_iff_eq.mpr c50
                                clear c50
                                (first | rw [c50b0] | (simp only [i64_w, i32_w]; rw [c50b0]) | skip)
                                have H' := Aside0.mk H
                                clear H
                                have hnb51 := NB225_215.out
                                have hnc51 := NB215_225.out
                                have hcz52_0 : w48.cell? ⟨gb225, 0, none⟩ = some (.int .i64 t219) := (blk_cell BK225.out 0).trans rfl
                                have hcz52_1 : w48.cell? ⟨gb225, 1, none⟩ = some (.int .i64 t220) := (blk_cell BK225.out 1).trans rfl
                                have hcz52_2 : w48.cell? ⟨gb225, 2, none⟩ = some (.int .i64 t221) := (blk_cell BK225.out 2).trans rfl
                                have hcz52_3 : w48.cell? ⟨gb225, 3, none⟩ = some (.int .i64 t222) := (blk_cell BK225.out 3).trans rfl
                                have hcz52_4 : w48.cell? ⟨gb225, 4, none⟩ = some (.int .i32 t223) := (blk_cell BK225.out 4).trans rfl
                                have hfz52_0 := blk_frozen BK225.out 0
                                have hfz52_1 := blk_frozen BK225.out 1
                                have hfz52_2 := blk_frozen BK225.out 2
                                have hfz52_3 := blk_frozen BK225.out 3
                                have hfz52_4 := blk_frozen BK225.out 4
                                have hcz53_0 : w48.cell? ⟨gb215, 0, none⟩ = some (.string ((rd_T28 l0 x36_1).f0)) := (blk_cell BK215.out 0).trans rfl
                                have hcz53_1 : w48.cell? ⟨gb215, 1, none⟩ = some (.int .i64 ((rd_T28 l0 x36_1).f1.f0)) := (blk_cell BK215.out 1).trans rfl
                                have hcz53_2 : w48.cell? ⟨gb215, 2, none⟩ = some (.int .i64 ((rd_T28 l0 x36_1).f1.f1)) := (blk_cell BK215.out 2).trans rfl
                                have hcz53_3 : w48.cell? ⟨gb215, 3, none⟩ = some (.int .i64 ((rd_T28 l0 x36_1).f1.f2)) := (blk_cell BK215.out 3).trans rfl
                                have hcz53_4 : w48.cell? ⟨gb215, 4, none⟩ = some (.int .i64 ((rd_T28 l0 x36_1).f1.f3)) := (blk_cell BK215.out 4).trans rfl
                                have hcz53_5 : w48.cell? ⟨gb215, 5, none⟩ = some (.int .i32 ((rd_T28 l0 x36_1).f1.f4)) := (blk_cell BK215.out 5).trans rfl
                                have hcz53_6 : w48.cell? ⟨gb215, 6, none⟩ = some (.string ((rd_T28 l0 x36_1).f2)) := (blk_cell BK215.out 6).trans rfl
                                have hfz53_0 := blk_frozen BK215.out 0
                                have hfz53_1 := blk_frozen BK215.out 1
                                have hfz53_2 := blk_frozen BK215.out 2
                                have hfz53_3 := blk_frozen BK215.out 3
                                have hfz53_4 := blk_frozen BK215.out 4
                                have hfz53_5 := blk_frozen BK215.out 5
                                have hfz53_6 := blk_frozen BK215.out 6
                                go_wp2
                                go_meet
                                case rel => exact ⟨_, (wrap64 ((wrap64 (t223)) - (wrap64 ((rd_T28 l0 x36_1).f1.f4)))), (by first | rfl | (simp; done) | (simp [*]; done)), H', ⟨by have := HK1.out; first | omega | exact Nat.le_refl _⟩, ⟨by (with_reducible repeat (first | apply Kd.R_alloc | apply Kd.R_drewN | apply Kd.R_drew)); exact HO_3.out⟩, ⟨by (with_reducible repeat (first | refine blk_drewN ?_ _ | refine blk_drew ?_ | refine blk_alloc ?_ _)); exact BK215.out⟩, ⟨by (with_reducible repeat (first | refine blk_drewN ?_ _ | refine blk_drew ?_ | refine blk_alloc ?_ _)); exact BK225.out⟩, ⟨by repeat (first | (with_reducible first | exact HB.out | apply below_alloc | apply pw_below_drewN | apply below_drew1 | refine below_set ?_ GE215.out | refine below_set ?_ GE225.out) | exact HB.out)⟩⟩
                              · rw [if_neg c50] at H
                                have c50b0 : (t219 == 1) = false := beq_eq_false_iff_ne.mpr c50
                                have c50b1 : (t219 != 1) = true := bne_iff_ne.mpr c50
                                (first | rw [c50b0] | (simp only [i64_w, i32_w]; rw [c50b0]) | skip)
                                have H' := Aside0.mk H
                                clear H
                                go_wp2
                                go_meet
                                case rel => exact ⟨_, (wrap64 ((wrap64 (x6_1 + 1)) + (wrap64 (t223)))), (by first | rfl | (simp; done) | (simp [*]; done)), H', ⟨by have := HK1.out; first | omega | exact Nat.le_refl _⟩, ⟨by (with_reducible repeat (first | apply Kd.R_alloc | apply Kd.R_drewN | apply Kd.R_drew)); exact HO_3.out⟩, ⟨by (with_reducible repeat (first | refine blk_drewN ?_ _ | refine blk_drew ?_ | refine blk_alloc ?_ _)); exact BK215.out⟩, ⟨by (with_reducible repeat (first | refine blk_drewN ?_ _ | refine blk_drew ?_ | refine blk_alloc ?_ _)); exact BK225.out⟩, ⟨by repeat (first | (with_reducible first | exact HB.out | apply below_alloc | apply pw_below_drewN | apply below_drew1 | refine below_set ?_ GE215.out | refine below_set ?_ GE225.out) | exact HB.out)⟩⟩
                            case rest =>
                              clear HC39
                              try clear c1
                              try clear c2
                              try clear p2
                              try clear q2
                              try clear hx2
                              try clear c3
                              try clear c4
                              try clear c5
                              try clear c5b0
                              try clear c5b1
                              try clear p6
                              try clear c7
                              try clear c8
                              try clear c8b0
                              try clear c9
                              try clear c9b0
                              try clear c10
                              try clear c10b0
                              try clear c11
                              try clear c11b0
                              try clear c11b1
                              try clear c12
                              try clear c12b0
                              try clear c16
                              try clear c16b0
                              try clear c17
                              try clear c17b0
                              try clear c19
                              try clear c20
                              try clear c20b0
                              try clear c20b1
                              try clear c21
                              try clear c21b0
                              try clear p21
                              try clear q21
                              try clear hx21
                              try clear c27
                              try clear c35
                              try clear c45
                              try clear c50
                              try clear c50b0
                              try clear c50b1
                              try clear c51
                              try clear hcz14_0
                              try clear hcz14_1
                              try clear hcz14_2
                              try clear hcz14_3
                              try clear hcz14_4
                              try clear hcz14_5
                              try clear hcz14_6
                              try clear hcz23_0
                              try clear hcz23_1
                              try clear hcz23_2
                              try clear hcz23_3
                              try clear hcz23_4
                              try clear hcz23_5
                              try clear hcz23_6
                              try clear hcz28_0
                              try clear hcz28_1
                              try clear hcz28_2
                              try clear hcz28_3
                              try clear hcz28_4
                              try clear hcz29_0
                              try clear hcz29_1
                              try clear hcz29_2
                              try clear hcz29_3
                              try clear hcz29_4
                              try clear hcz29_5
                              try clear hcz29_6
                              try clear hcz31_0
                              try clear hcz31_1
                              try clear hcz31_2
                              try clear hcz31_3
                              try clear hcz31_4
                              try clear hcz31_5
                              try clear hcz31_6
                              try clear hcz36_0
                              try clear hcz36_1
                              try clear hcz36_2
                              try clear hcz36_3
                              try clear hcz36_4
                              try clear hcz37_0
                              try clear hcz37_1
                              try clear hcz37_2
                              try clear hcz37_3
                              try clear hcz37_4
                              try clear hcz37_5
                              try clear hcz37_6
                              try clear hcz41_0
                              try clear hcz41_1
                              try clear hcz41_2
                              try clear hcz41_3
                              try clear hcz41_4
                              try clear hcz41_5
                              try clear hcz41_6
                              try clear hcz46_0
                              try clear hcz46_1
                              try clear hcz46_2
                              try clear hcz46_3
                              try clear hcz46_4
                              try clear hcz47_0
                              try clear hcz47_1
                              try clear hcz47_2
                              try clear hcz47_3
                              try clear hcz47_4
                              try clear hcz47_5
                              try clear hcz47_6
                              try clear hcz49_0
                              try clear hcz49_1
                              try clear hcz49_2
                              try clear hcz49_3
                              try clear hcz49_4
                              try clear hcz52_0
                              try clear hcz52_1
                              try clear hcz52_2
                              try clear hcz52_3
                              try clear hcz52_4
                              try clear hcz53_0
                              try clear hcz53_1
                              try clear hcz53_2
                              try clear hcz53_3
                              try clear hcz53_4
                              try clear hcz53_5
                              try clear hcz53_6
                              try clear hfz14_0
                              try clear hfz14_1
                              try clear hfz14_2
                              try clear hfz14_3
                              try clear hfz14_4
                              try clear hfz14_5
                              try clear hfz14_6
                              try clear hfz23_0
                              try clear hfz23_1
                              try clear hfz23_2
                              try clear hfz23_3
                              try clear hfz23_4
                              try clear hfz23_5
                              try clear hfz23_6
                              try clear hfz28_0
                              try clear hfz28_1
                              try clear hfz28_2
                              try clear hfz28_3
                              try clear hfz28_4
                              try clear hfz29_0
                              try clear hfz29_1
                              try clear hfz29_2
                              try clear hfz29_3
                              try clear hfz29_4
                              try clear hfz29_5
                              try clear hfz29_6
                              try clear hfz31_0
                              try clear hfz31_1
                              try clear hfz31_2
                              try clear hfz31_3
                              try clear hfz31_4
                              try clear hfz31_5
                              try clear hfz31_6
                              try clear hfz36_0
                              try clear hfz36_1
                              try clear hfz36_2
                              try clear hfz36_3
                              try clear hfz36_4
                              try clear hfz37_0
                              try clear hfz37_1
                              try clear hfz37_2
                              try clear hfz37_3
                              try clear hfz37_4
                              try clear hfz37_5
                              try clear hfz37_6
                              try clear hfz41_0
                              try clear hfz41_1
                              try clear hfz41_2
                              try clear hfz41_3
                              try clear hfz41_4
                              try clear hfz41_5
                              try clear hfz41_6
                              try clear hfz46_0
                              try clear hfz46_1
                              try clear hfz46_2
                              try clear hfz46_3
                              try clear hfz46_4
                              try clear hfz47_0
                              try clear hfz47_1
                              try clear hfz47_2
                              try clear hfz47_3
                              try clear hfz47_4
                              try clear hfz47_5
                              try clear hfz47_6
                              try clear hfz49_0
                              try clear hfz49_1
                              try clear hfz49_2
                              try clear hfz49_3
                              try clear hfz49_4
                              try clear hfz52_0
                              try clear hfz52_1
                              try clear hfz52_2
                              try clear hfz52_3
                              try clear hfz52_4
                              try clear hfz53_0
                              try clear hfz53_1
                              try clear hfz53_2
                              try clear hfz53_3
                              try clear hfz53_4
                              try clear hfz53_5
                              try clear hfz53_6
                              try clear hx214_0
                              try clear hx214_1
                              try clear hx214_2
                              try clear hx214_3
                              try clear hx214_4
                              try clear hx214_5
                              try clear hx214_6
                              try clear hx218_0
                              try clear p2
                              try clear p214
                              try clear p218
                              try clear q214
                              try clear q218
                              obtain ⟨kq, x15_38, rfl, HA, HJ38, HO_3, BK215, BK225, HB⟩ := hcut
                              cases kq with
                              | zero => exact absurd HA.out (by simp [curtilagelaw10_AsmGoes.j1])
                              | succ kj38 =>
                                have H := HA.out
                                clear HA
                                simp only [curtilagelaw10_AsmGoes.j1] at H
                                have HC54 := Aside0.mk H
                                clear H
                                go_upto_region 24 with (fail)
                                go_cut [104] (fun v104 wc => ∃ (kq : Nat) (x104_53 : Bool), v104 = .bool x104_53 ∧ Aside0 (curtilagelaw10_AsmGoes.j2 kq l0 t207 x6_1 l0 (l0.length : Int) x36_1 x104_53 ((rd_T28 l0 x36_1).f0) ((rd_T28 l0 x36_1).f1.f0) ((rd_T28 l0 x36_1).f1.f1) ((rd_T28 l0 x36_1).f1.f2) ((rd_T28 l0 x36_1).f1.f3) ((rd_T28 l0 x36_1).f1.f4) ((rd_T28 l0 x36_1).f2) t219 t220 t221 t222 t223 = some r) ∧ Aside0 (kq ≤ kj38) ∧ Aside0 (Kd.R (Kd.int .u64) 40 wc w.heap.size (fun _ => True) (.slice (some ad218) t207.length co42) t207) ∧ Aside0 (wc.heap[gb215]? = some (.cells #[.string ((rd_T28 l0 x36_1).f0), .int .i64 ((rd_T28 l0 x36_1).f1.f0), .int .i64 ((rd_T28 l0 x36_1).f1.f1), .int .i64 ((rd_T28 l0 x36_1).f1.f2), .int .i64 ((rd_T28 l0 x36_1).f1.f3), .int .i32 ((rd_T28 l0 x36_1).f1.f4), .string ((rd_T28 l0 x36_1).f2)] 28 (0, 0))) ∧ Aside0 (wc.heap[gb225]? = some (.cells #[.int .i64 t219, .int .i64 t220, .int .i64 t221, .int .i64 t222, .int .i32 t223] 26 (0, 0))) ∧ Aside0 (Below w.heap.size w wc))
                                case first =>
                                  have H := HC54.out
                                  clear HC54
                                  by_cases c55 : t227 = true
                                  · subst c55
                                    have H1 : (curtilagelaw10_AsmGoes.j2 kj38 l0 t207 x6_1 l0 (l0.length : Int) x36_1 (x15_38 != t226) ((rd_T28 l0 x36_1).f0) ((rd_T28 l0 x36_1).f1.f0) ((rd_T28 l0 x36_1).f1.f1) ((rd_T28 l0 x36_1).f1.f2) ((rd_T28 l0 x36_1).f1.f3) ((rd_T28 l0 x36_1).f1.f4) ((rd_T28 l0 x36_1).f2) t219 t220 t221 t222 t223) = some r := by rw [if_pos rfl] at H; exact H
                                    clear H
                                    have H := H1
                                    clear H1
                                    have H' := Aside0.mk H
                                    clear H
                                    go_wp2
                                    go_meet
                                    case rel => exact ⟨_, ((x15_38 != t226)), (by first | rfl | (simp; done) | (simp [*]; done)), H', ⟨by have := HK1.out; have := HJ38.out; first | omega | exact Nat.le_refl _⟩, ⟨by (with_reducible repeat (first | apply Kd.R_alloc | apply Kd.R_drewN | apply Kd.R_drew)); exact HO_3.out⟩, ⟨by (with_reducible repeat (first | refine blk_drewN ?_ _ | refine blk_drew ?_ | refine blk_alloc ?_ _)); exact BK215.out⟩, ⟨by (with_reducible repeat (first | refine blk_drewN ?_ _ | refine blk_drew ?_ | refine blk_alloc ?_ _)); exact BK225.out⟩, ⟨by repeat (first | (with_reducible first | exact HB.out | apply below_alloc | apply pw_below_drewN | apply below_drew1 | refine below_set ?_ GE215.out | refine below_set ?_ GE225.out) | exact HB.out)⟩⟩
                                  · replace c55 := Bool.eq_false_iff.mpr c55
                                    subst c55
                                    have H1 : (curtilagelaw10_AsmGoes.j2 kj38 l0 t207 x6_1 l0 (l0.length : Int) x36_1 true ((rd_T28 l0 x36_1).f0) ((rd_T28 l0 x36_1).f1.f0) ((rd_T28 l0 x36_1).f1.f1) ((rd_T28 l0 x36_1).f1.f2) ((rd_T28 l0 x36_1).f1.f3) ((rd_T28 l0 x36_1).f1.f4) ((rd_T28 l0 x36_1).f2) t219 t220 t221 t222 t223) = some r := by rw [if_neg (show ¬ (false = true) by decide)] at H; exact H
                                    clear H
                                    have H := H1
                                    clear H1
                                    have H' := Aside0.mk H
                                    clear H
                                    go_wp2
                                    go_meet
                                    case rel => exact ⟨_, (true), (by first | rfl | (simp; done) | (simp [*]; done)), H', ⟨by have := HK1.out; have := HJ38.out; first | omega | exact Nat.le_refl _⟩, ⟨by (with_reducible repeat (first | apply Kd.R_alloc | apply Kd.R_drewN | apply Kd.R_drew)); exact HO_3.out⟩, ⟨by (with_reducible repeat (first | refine blk_drewN ?_ _ | refine blk_drew ?_ | refine blk_alloc ?_ _)); exact BK215.out⟩, ⟨by (with_reducible repeat (first | refine blk_drewN ?_ _ | refine blk_drew ?_ | refine blk_alloc ?_ _)); exact BK225.out⟩, ⟨by repeat (first | (with_reducible first | exact HB.out | apply below_alloc | apply pw_below_drewN | apply below_drew1 | refine below_set ?_ GE215.out | refine below_set ?_ GE225.out) | exact HB.out)⟩⟩
                                case rest =>
                                  clear HC54
                                  try clear c1
                                  try clear c2
                                  try clear p2
                                  try clear q2
                                  try clear hx2
                                  try clear c3
                                  try clear c4
                                  try clear c5
                                  try clear c5b0
                                  try clear c5b1
                                  try clear p6
                                  try clear c7
                                  try clear c8
                                  try clear c8b0
                                  try clear c9
                                  try clear c9b0
                                  try clear c10
                                  try clear c10b0
                                  try clear c11
                                  try clear c11b0
                                  try clear c11b1
                                  try clear c12
                                  try clear c12b0
                                  try clear c16
                                  try clear c16b0
                                  try clear c17
                                  try clear c17b0
                                  try clear c19
                                  try clear c20
                                  try clear c20b0
                                  try clear c20b1
                                  try clear c21
                                  try clear c21b0
                                  try clear p21
                                  try clear q21
                                  try clear hx21
                                  try clear c27
                                  try clear c35
                                  try clear c45
                                  try clear c50
                                  try clear c50b0
                                  try clear c50b1
                                  try clear c51
                                  try clear c55
                                  try clear hcz14_0
                                  try clear hcz14_1
                                  try clear hcz14_2
                                  try clear hcz14_3
                                  try clear hcz14_4
                                  try clear hcz14_5
                                  try clear hcz14_6
                                  try clear hcz23_0
                                  try clear hcz23_1
                                  try clear hcz23_2
                                  try clear hcz23_3
                                  try clear hcz23_4
                                  try clear hcz23_5
                                  try clear hcz23_6
                                  try clear hcz28_0
                                  try clear hcz28_1
                                  try clear hcz28_2
                                  try clear hcz28_3
                                  try clear hcz28_4
                                  try clear hcz29_0
                                  try clear hcz29_1
                                  try clear hcz29_2
                                  try clear hcz29_3
                                  try clear hcz29_4
                                  try clear hcz29_5
                                  try clear hcz29_6
                                  try clear hcz31_0
                                  try clear hcz31_1
                                  try clear hcz31_2
                                  try clear hcz31_3
                                  try clear hcz31_4
                                  try clear hcz31_5
                                  try clear hcz31_6
                                  try clear hcz36_0
                                  try clear hcz36_1
                                  try clear hcz36_2
                                  try clear hcz36_3
                                  try clear hcz36_4
                                  try clear hcz37_0
                                  try clear hcz37_1
                                  try clear hcz37_2
                                  try clear hcz37_3
                                  try clear hcz37_4
                                  try clear hcz37_5
                                  try clear hcz37_6
                                  try clear hcz41_0
                                  try clear hcz41_1
                                  try clear hcz41_2
                                  try clear hcz41_3
                                  try clear hcz41_4
                                  try clear hcz41_5
                                  try clear hcz41_6
                                  try clear hcz46_0
                                  try clear hcz46_1
                                  try clear hcz46_2
                                  try clear hcz46_3
                                  try clear hcz46_4
                                  try clear hcz47_0
                                  try clear hcz47_1
                                  try clear hcz47_2
                                  try clear hcz47_3
                                  try clear hcz47_4
                                  try clear hcz47_5
                                  try clear hcz47_6
                                  try clear hcz49_0
                                  try clear hcz49_1
                                  try clear hcz49_2
                                  try clear hcz49_3
                                  try clear hcz49_4
                                  try clear hcz52_0
                                  try clear hcz52_1
                                  try clear hcz52_2
                                  try clear hcz52_3
                                  try clear hcz52_4
                                  try clear hcz53_0
                                  try clear hcz53_1
                                  try clear hcz53_2
                                  try clear hcz53_3
                                  try clear hcz53_4
                                  try clear hcz53_5
                                  try clear hcz53_6
                                  try clear hfz14_0
                                  try clear hfz14_1
                                  try clear hfz14_2
                                  try clear hfz14_3
                                  try clear hfz14_4
                                  try clear hfz14_5
                                  try clear hfz14_6
                                  try clear hfz23_0
                                  try clear hfz23_1
                                  try clear hfz23_2
                                  try clear hfz23_3
                                  try clear hfz23_4
                                  try clear hfz23_5
                                  try clear hfz23_6
                                  try clear hfz28_0
                                  try clear hfz28_1
                                  try clear hfz28_2
                                  try clear hfz28_3
                                  try clear hfz28_4
                                  try clear hfz29_0
                                  try clear hfz29_1
                                  try clear hfz29_2
                                  try clear hfz29_3
                                  try clear hfz29_4
                                  try clear hfz29_5
                                  try clear hfz29_6
                                  try clear hfz31_0
                                  try clear hfz31_1
                                  try clear hfz31_2
                                  try clear hfz31_3
                                  try clear hfz31_4
                                  try clear hfz31_5
                                  try clear hfz31_6
                                  try clear hfz36_0
                                  try clear hfz36_1
                                  try clear hfz36_2
                                  try clear hfz36_3
                                  try clear hfz36_4
                                  try clear hfz37_0
                                  try clear hfz37_1
                                  try clear hfz37_2
                                  try clear hfz37_3
                                  try clear hfz37_4
                                  try clear hfz37_5
                                  try clear hfz37_6
                                  try clear hfz41_0
                                  try clear hfz41_1
                                  try clear hfz41_2
                                  try clear hfz41_3
                                  try clear hfz41_4
                                  try clear hfz41_5
                                  try clear hfz41_6
                                  try clear hfz46_0
                                  try clear hfz46_1
                                  try clear hfz46_2
                                  try clear hfz46_3
                                  try clear hfz46_4
                                  try clear hfz47_0
                                  try clear hfz47_1
                                  try clear hfz47_2
                                  try clear hfz47_3
                                  try clear hfz47_4
                                  try clear hfz47_5
                                  try clear hfz47_6
                                  try clear hfz49_0
                                  try clear hfz49_1
                                  try clear hfz49_2
                                  try clear hfz49_3
                                  try clear hfz49_4
                                  try clear hfz52_0
                                  try clear hfz52_1
                                  try clear hfz52_2
                                  try clear hfz52_3
                                  try clear hfz52_4
                                  try clear hfz53_0
                                  try clear hfz53_1
                                  try clear hfz53_2
                                  try clear hfz53_3
                                  try clear hfz53_4
                                  try clear hfz53_5
                                  try clear hfz53_6
                                  try clear hx214_0
                                  try clear hx214_1
                                  try clear hx214_2
                                  try clear hx214_3
                                  try clear hx214_4
                                  try clear hx214_5
                                  try clear hx214_6
                                  try clear hx218_0
                                  try clear p2
                                  try clear p21
                                  try clear p214
                                  try clear p218
                                  try clear p6
                                  try clear q2
                                  try clear q21
                                  try clear q214
                                  try clear q218
                                  obtain ⟨kq, x104_53, rfl, HA, HJ53, HO_3, BK215, BK225, HB⟩ := hcut
                                  cases kq with
                                  | zero => exact absurd HA.out (by simp [curtilagelaw10_AsmGoes.j2])
                                  | succ kj53 =>
                                    have H := HA.out
                                    clear HA
                                    simp only [curtilagelaw10_AsmGoes.j2] at H
                                    by_cases c56 : x104_53 = true
                                    · subst c56
                                      have H1 : (some false) = some r := by rw [if_pos rfl] at H; exact H
                                      clear H
                                      have H := H1
                                      clear H1
                                      obtain rfl := Option.some.inj H
                                      go_wp2
                                      go_ret
                                      exact ⟨by first | rfl | (simp [errW_none, errW_some] <;> rfl) | (simp [*, errW_none, errW_some] <;> rfl), by repeat (first | (with_reducible first | exact HB.out | apply below_alloc | apply pw_below_drewN | apply below_drew1 | refine below_set ?_ GE215.out | refine below_set ?_ GE225.out) | exact HB.out)⟩
                                    · replace c56 := Bool.eq_false_iff.mpr c56
                                      subst c56
                                      have H1 : (if (!(t219 == ((rd_T28 l0 x36_1).f1.f0)) || (!(t220 == ((rd_T28 l0 x36_1).f1.f1)) || (!(t221 == ((rd_T28 l0 x36_1).f1.f2)) || (!(t222 == ((rd_T28 l0 x36_1).f1.f3)))))) = true then (some false) else (curtilagelaw10_AsmGoes.l0 kj53 l0 t207 (wrap64 (x6_1 + 1)) l0 (l0.length : Int) (wrap64 (x36_1 + 1)))) = some r := by rw [if_neg (show ¬ (false = true) by decide)] at H; exact H
                                      clear H
                                      have H := H1
                                      clear H1
                                      by_cases c57 : (!(t219 == ((rd_T28 l0 x36_1).f1.f0)) || (!(t220 == ((rd_T28 l0 x36_1).f1.f1)) || (!(t221 == ((rd_T28 l0 x36_1).f1.f2)) || (!(t222 == ((rd_T28 l0 x36_1).f1.f3)))))) = true
                                      · rw [if_pos c57] at H
                                        have c57b0 : (!(t219 == ((rd_T28 l0 x36_1).f1.f0)) || (!(t220 == ((rd_T28 l0 x36_1).f1.f1)) || (!(t221 == ((rd_T28 l0 x36_1).f1.f2)) || (!(t222 == ((rd_T28 l0 x36_1).f1.f3)))))) = true := c57
                                        clear c57
                                        obtain rfl := Option.some.inj H
                                        have hnb58 := NB215_225.out
                                        have hnc58 := NB225_215.out
                                        have hcz59_0 : wc.cell? ⟨gb215, 0, none⟩ = some (.string ((rd_T28 l0 x36_1).f0)) := (blk_cell BK215.out 0).trans rfl
                                        have hcz59_1 : wc.cell? ⟨gb215, 1, none⟩ = some (.int .i64 ((rd_T28 l0 x36_1).f1.f0)) := (blk_cell BK215.out 1).trans rfl
                                        have hcz59_2 : wc.cell? ⟨gb215, 2, none⟩ = some (.int .i64 ((rd_T28 l0 x36_1).f1.f1)) := (blk_cell BK215.out 2).trans rfl
                                        have hcz59_3 : wc.cell? ⟨gb215, 3, none⟩ = some (.int .i64 ((rd_T28 l0 x36_1).f1.f2)) := (blk_cell BK215.out 3).trans rfl
                                        have hcz59_4 : wc.cell? ⟨gb215, 4, none⟩ = some (.int .i64 ((rd_T28 l0 x36_1).f1.f3)) := (blk_cell BK215.out 4).trans rfl
                                        have hcz59_5 : wc.cell? ⟨gb215, 5, none⟩ = some (.int .i32 ((rd_T28 l0 x36_1).f1.f4)) := (blk_cell BK215.out 5).trans rfl
                                        have hcz59_6 : wc.cell? ⟨gb215, 6, none⟩ = some (.string ((rd_T28 l0 x36_1).f2)) := (blk_cell BK215.out 6).trans rfl
                                        have hfz59_0 := blk_frozen BK215.out 0
                                        have hfz59_1 := blk_frozen BK215.out 1
                                        have hfz59_2 := blk_frozen BK215.out 2
                                        have hfz59_3 := blk_frozen BK215.out 3
                                        have hfz59_4 := blk_frozen BK215.out 4
                                        have hfz59_5 := blk_frozen BK215.out 5
                                        have hfz59_6 := blk_frozen BK215.out 6
                                        have hcz60_0 : wc.cell? ⟨gb225, 0, none⟩ = some (.int .i64 t219) := (blk_cell BK225.out 0).trans rfl
                                        have hcz60_1 : wc.cell? ⟨gb225, 1, none⟩ = some (.int .i64 t220) := (blk_cell BK225.out 1).trans rfl
                                        have hcz60_2 : wc.cell? ⟨gb225, 2, none⟩ = some (.int .i64 t221) := (blk_cell BK225.out 2).trans rfl
                                        have hcz60_3 : wc.cell? ⟨gb225, 3, none⟩ = some (.int .i64 t222) := (blk_cell BK225.out 3).trans rfl
                                        have hcz60_4 : wc.cell? ⟨gb225, 4, none⟩ = some (.int .i32 t223) := (blk_cell BK225.out 4).trans rfl
                                        have hfz60_0 := blk_frozen BK225.out 0
                                        have hfz60_1 := blk_frozen BK225.out 1
                                        have hfz60_2 := blk_frozen BK225.out 2
                                        have hfz60_3 := blk_frozen BK225.out 3
                                        have hfz60_4 := blk_frozen BK225.out 4
                                        go_wp2
                                        go_ret
                                        exact ⟨by first | rfl | (simp [errW_none, errW_some] <;> rfl) | (simp [*, errW_none, errW_some] <;> rfl), by repeat (first | (with_reducible first | exact HB.out | apply below_alloc | apply pw_below_drewN | apply below_drew1 | refine below_set ?_ GE215.out | refine below_set ?_ GE225.out) | exact HB.out)⟩
                                      · rw [if_neg c57] at H
                                        have c57b0 : (!(t219 == ((rd_T28 l0 x36_1).f1.f0)) || (!(t220 == ((rd_T28 l0 x36_1).f1.f1)) || (!(t221 == ((rd_T28 l0 x36_1).f1.f2)) || (!(t222 == ((rd_T28 l0 x36_1).f1.f3)))))) = false := by simpa using c57
                                        clear c57
                                        have H' := Aside0.mk H
                                        clear H
                                        have hnb61 := NB215_225.out
                                        have hnc61 := NB225_215.out
                                        have hcz62_0 : wc.cell? ⟨gb215, 0, none⟩ = some (.string ((rd_T28 l0 x36_1).f0)) := (blk_cell BK215.out 0).trans rfl
                                        have hcz62_1 : wc.cell? ⟨gb215, 1, none⟩ = some (.int .i64 ((rd_T28 l0 x36_1).f1.f0)) := (blk_cell BK215.out 1).trans rfl
                                        have hcz62_2 : wc.cell? ⟨gb215, 2, none⟩ = some (.int .i64 ((rd_T28 l0 x36_1).f1.f1)) := (blk_cell BK215.out 2).trans rfl
                                        have hcz62_3 : wc.cell? ⟨gb215, 3, none⟩ = some (.int .i64 ((rd_T28 l0 x36_1).f1.f2)) := (blk_cell BK215.out 3).trans rfl
                                        have hcz62_4 : wc.cell? ⟨gb215, 4, none⟩ = some (.int .i64 ((rd_T28 l0 x36_1).f1.f3)) := (blk_cell BK215.out 4).trans rfl
                                        have hcz62_5 : wc.cell? ⟨gb215, 5, none⟩ = some (.int .i32 ((rd_T28 l0 x36_1).f1.f4)) := (blk_cell BK215.out 5).trans rfl
                                        have hcz62_6 : wc.cell? ⟨gb215, 6, none⟩ = some (.string ((rd_T28 l0 x36_1).f2)) := (blk_cell BK215.out 6).trans rfl
                                        have hfz62_0 := blk_frozen BK215.out 0
                                        have hfz62_1 := blk_frozen BK215.out 1
                                        have hfz62_2 := blk_frozen BK215.out 2
                                        have hfz62_3 := blk_frozen BK215.out 3
                                        have hfz62_4 := blk_frozen BK215.out 4
                                        have hfz62_5 := blk_frozen BK215.out 5
                                        have hfz62_6 := blk_frozen BK215.out 6
                                        have hcz63_0 : wc.cell? ⟨gb225, 0, none⟩ = some (.int .i64 t219) := (blk_cell BK225.out 0).trans rfl
                                        have hcz63_1 : wc.cell? ⟨gb225, 1, none⟩ = some (.int .i64 t220) := (blk_cell BK225.out 1).trans rfl
                                        have hcz63_2 : wc.cell? ⟨gb225, 2, none⟩ = some (.int .i64 t221) := (blk_cell BK225.out 2).trans rfl
                                        have hcz63_3 : wc.cell? ⟨gb225, 3, none⟩ = some (.int .i64 t222) := (blk_cell BK225.out 3).trans rfl
                                        have hcz63_4 : wc.cell? ⟨gb225, 4, none⟩ = some (.int .i32 t223) := (blk_cell BK225.out 4).trans rfl
                                        have hfz63_0 := blk_frozen BK225.out 0
                                        have hfz63_1 := blk_frozen BK225.out 1
                                        have hfz63_2 := blk_frozen BK225.out 2
                                        have hfz63_3 := blk_frozen BK225.out 3
                                        have hfz63_4 := blk_frozen BK225.out 4
                                        go_wp2
                                        go_roundg kj53
                                        case measure => have := HK1.out; have := HJ38.out; have := HJ53.out; omega
                                        case rel => exact ⟨(wrap64 (x6_1 + 1)), (wrap64 (x36_1 + 1)), (by first | rfl | (simp; done) | (simp [*]; done)), (by first | rfl | (simp; done) | (simp [*]; done)), H', ⟨by have := HK1.out; have := HJ38.out; have := HJ53.out; omega⟩, ⟨by (with_reducible repeat (first | apply Kd.R_alloc | apply Kd.R_drewN | apply Kd.R_drew)); exact Kd.R_mono (Kd.R_far (p := ⟨gb225, 4, none⟩) (Kd.R_types HO_3.out BK225.out (by decide)) (fun _ hk => hk.2) (.int .i32 ((rd_T28 l0 x36_1).f1.f4))) (fun _ hk => trivial)⟩, ⟨by repeat (first | (with_reducible first | exact HB.out | apply below_alloc | apply pw_below_drewN | apply below_drew1 | refine below_set ?_ GE215.out | refine below_set ?_ GE225.out) | exact HB.out)⟩⟩
                        · replace c19 := Bool.eq_false_iff.mpr c19
                          subst c19
                          have H1 : (some false) = some r := by rw [if_neg (show ¬ (false = true) by decide)] at H; exact H
                          clear H
                          have H := H1
                          clear H1
                          obtain rfl := Option.some.inj H
                          have p214 : 0 ≤ (x36_1 : Int) := of_decide_eq_true (by first | (with_reducible assumption) | assumption)
                          have q214 : x36_1 < (l0.length : Int) := of_decide_eq_true (by first | (with_reducible assumption) | assumption)
                          obtain ⟨ad214, e214, hx214_0, hx214_1, hx214_2, hx214_3, hx214_4, hx214_5, hx214_6⟩ := at_T28 HR0.out x36_1 p214 q214
                          cases e214
                          replace hx214_0 := (HB.out.cell (World.block_lt_of_cell? w _ hx214_0)).trans hx214_0
                          replace hx214_1 := (HB.out.cell (World.block_lt_of_cell? w _ hx214_1)).trans hx214_1
                          replace hx214_2 := (HB.out.cell (World.block_lt_of_cell? w _ hx214_2)).trans hx214_2
                          replace hx214_3 := (HB.out.cell (World.block_lt_of_cell? w _ hx214_3)).trans hx214_3
                          replace hx214_4 := (HB.out.cell (World.block_lt_of_cell? w _ hx214_4)).trans hx214_4
                          replace hx214_5 := (HB.out.cell (World.block_lt_of_cell? w _ hx214_5)).trans hx214_5
                          replace hx214_6 := (HB.out.cell (World.block_lt_of_cell? w _ hx214_6)).trans hx214_6
                          replace p214 := eq_true p214
                          replace q214 := eq_true q214
                          go_wp2_with (first | ((with_reducible refine gate_dst (N := 8) rfl ?_); refine box_event ?hg (N := 8) ?hd (cs := #[.string (⟨#[]⟩ : ByteArray), .int .i64 0, .int .i64 0, .int .i64 0, .int .i64 0, .int .i32 0, .string (⟨#[]⟩ : ByteArray)]) (t := 28) ?hr ?_; (case hd => rfl); (case hg => rfl); (case hr => first | (go_simp; done) | (go_simp; rfl)); intro gb215 hg w64 hbox hb; have n0_ := Aside0.mk (Kd.R_below (by (with_reducible repeat (first | apply Kd.R_alloc | apply Kd.R_drewN | apply Kd.R_drew)); exact HO_3.out) hb); have n1_ := Aside0.mk (below_step (by repeat (first | (with_reducible first | exact HB.out | apply below_alloc | apply pw_below_drewN | apply below_drew1) | exact HB.out)) hb); have n2_ := Aside0.mk (hbox); have n3_ := Aside0.mk ((by rw [hg]; exact (below_size (by repeat (first | (with_reducible first | exact HB.out | apply below_alloc | apply pw_below_drewN | apply below_drew1) | exact HB.out))) : w.heap.size ≤ gb215)); have n4_ := Aside0.mk ((by rw [hg]; exact (below_size (by repeat (first | (with_reducible first | exact HB.out | apply below_alloc | apply pw_below_drewN | apply below_drew1) | exact HB.out))) : w.heap.size ≤ gb215)); clear HO_3; clear HB; have HO_3 := n0_; have HB := n1_; have BK215 := n2_; have GW215 := n3_; have GE215 := n4_; clear n0_ n1_ n2_ n3_ n4_; clear hb hbox hg; have hcz65_0 : w64.cell? ⟨gb215, 0, none⟩ = some (.string (⟨#[]⟩ : ByteArray)) := (blk_cell BK215.out 0).trans rfl; have hcz65_1 : w64.cell? ⟨gb215, 1, none⟩ = some (.int .i64 0) := (blk_cell BK215.out 1).trans rfl; have hcz65_2 : w64.cell? ⟨gb215, 2, none⟩ = some (.int .i64 0) := (blk_cell BK215.out 2).trans rfl; have hcz65_3 : w64.cell? ⟨gb215, 3, none⟩ = some (.int .i64 0) := (blk_cell BK215.out 3).trans rfl; have hcz65_4 : w64.cell? ⟨gb215, 4, none⟩ = some (.int .i64 0) := (blk_cell BK215.out 4).trans rfl; have hcz65_5 : w64.cell? ⟨gb215, 5, none⟩ = some (.int .i32 0) := (blk_cell BK215.out 5).trans rfl; have hcz65_6 : w64.cell? ⟨gb215, 6, none⟩ = some (.string (⟨#[]⟩ : ByteArray)) := (blk_cell BK215.out 6).trans rfl; have hfz65_0 := blk_frozen BK215.out 0; have hfz65_1 := blk_frozen BK215.out 1; have hfz65_2 := blk_frozen BK215.out 2; have hfz65_3 := blk_frozen BK215.out 3; have hfz65_4 := blk_frozen BK215.out 4; have hfz65_5 := blk_frozen BK215.out 5; have hfz65_6 := blk_frozen BK215.out 6; obtain ⟨Ao66, co66, eo66⟩ := Kd.R_slice HO_3.out; subst eo66; have p218 : 0 ≤ (x6_1 : Int) := of_decide_eq_true (by first | (with_reducible assumption) | assumption); have q218 : x6_1 < (t207.length : Int) := of_decide_eq_true (by first | (with_reducible assumption) | assumption); obtain ⟨ad218, e218, hx218_0⟩ := Kd.at_int (Kd.R_reads' HO_3.out).2.2 x6_1 p218 q218; cases e218; have hn218_0 : ad218.block ≠ gb215 := Kd.own_blk (Kd.R_ne HO_3.out BK215.out (by decide)); have hn218_1 : ad218.block ≠ gb215 := Kd.own_blk (Kd.R_ne HO_3.out BK215.out (by decide)); have hn218_2 : ad218.block ≠ gb215 := Kd.own_blk (Kd.R_ne HO_3.out BK215.out (by decide)); have hn218_3 : ad218.block ≠ gb215 := Kd.own_blk (Kd.R_ne HO_3.out BK215.out (by decide)); have hn218_4 : ad218.block ≠ gb215 := Kd.own_blk (Kd.R_ne HO_3.out BK215.out (by decide)); have hn218_5 : ad218.block ≠ gb215 := Kd.own_blk (Kd.R_ne HO_3.out BK215.out (by decide)); have hn218_6 : ad218.block ≠ gb215 := Kd.own_blk (Kd.R_ne HO_3.out BK215.out (by decide)); replace hx218_0 := (cell_far (p := ⟨gb215, 0, none⟩) (by first | (rw [add_block]; exact hn218_0) | (show (Addr.add _ _).block ≠ _; rw [add_block]; exact hn218_0) | exact hn218_0) (.string ((rd_T28 l0 x36_1).f0))).trans hx218_0; replace hx218_0 := (cell_far (p := ⟨gb215, 1, none⟩) (by first | (rw [add_block]; exact hn218_1) | (show (Addr.add _ _).block ≠ _; rw [add_block]; exact hn218_1) | exact hn218_1) (.int .i64 ((rd_T28 l0 x36_1).f1.f0))).trans hx218_0; replace hx218_0 := (cell_far (p := ⟨gb215, 2, none⟩) (by first | (rw [add_block]; exact hn218_2) | (show (Addr.add _ _).block ≠ _; rw [add_block]; exact hn218_2) | exact hn218_2) (.int .i64 ((rd_T28 l0 x36_1).f1.f1))).trans hx218_0; replace hx218_0 := (cell_far (p := ⟨gb215, 3, none⟩) (by first | (rw [add_block]; exact hn218_3) | (show (Addr.add _ _).block ≠ _; rw [add_block]; exact hn218_3) | exact hn218_3) (.int .i64 ((rd_T28 l0 x36_1).f1.f2))).trans hx218_0; replace hx218_0 := (cell_far (p := ⟨gb215, 4, none⟩) (by first | (rw [add_block]; exact hn218_4) | (show (Addr.add _ _).block ≠ _; rw [add_block]; exact hn218_4) | exact hn218_4) (.int .i64 ((rd_T28 l0 x36_1).f1.f3))).trans hx218_0; replace hx218_0 := (cell_far (p := ⟨gb215, 5, none⟩) (by first | (rw [add_block]; exact hn218_5) | (show (Addr.add _ _).block ≠ _; rw [add_block]; exact hn218_5) | exact hn218_5) (.int .i32 ((rd_T28 l0 x36_1).f1.f4))).trans hx218_0; replace hx218_0 := (cell_far (p := ⟨gb215, 6, none⟩) (by first | (rw [add_block]; exact hn218_6) | (show (Addr.add _ _).block ≠ _; rw [add_block]; exact hn218_6) | exact hn218_6) (.string ((rd_T28 l0 x36_1).f2))).trans hx218_0; clear hn218_0; clear hn218_1; clear hn218_2; clear hn218_3; clear hn218_4; clear hn218_5; clear hn218_6; replace p218 := eq_true p218; replace q218 := eq_true q218) | ((with_reducible refine gate_callee (f := 11) rfl ?_); refine goesL_ (some 66) rfl rfl Tryd.func11 (by kernel_rfl) rfl #[.int .u64 (rd t207 x6_1)] rfl (by (try simp only [List.map_toArray, List.map_cons, List.map_nil]); first | done | rfl | (simp only [List.length_drop, List.length_take]; rfl)) ?_; (with_reducible refine (curtilageref08_Decode.calls k1 (rd t207 x6_1) t219 t220 t221 t222 t223 false _ A18.out).mono ?_); rintro e w67 ⟨rfl, hb⟩; refine ⟨_, rfl, ?_⟩; have n0_ := Aside0.mk (Kd.R_below (by (with_reducible repeat (first | apply Kd.R_alloc | apply Kd.R_drewN | apply Kd.R_drew)); exact (Kd.R_mono (Kd.R_far (p := ⟨gb215, 6, none⟩) (Kd.R_far (p := ⟨gb215, 5, none⟩) (Kd.R_far (p := ⟨gb215, 4, none⟩) (Kd.R_far (p := ⟨gb215, 3, none⟩) (Kd.R_far (p := ⟨gb215, 2, none⟩) (Kd.R_far (p := ⟨gb215, 1, none⟩) (Kd.R_far (p := ⟨gb215, 0, none⟩) (Kd.R_types HO_3.out BK215.out (by decide)) (fun _ hk => hk.2) (.string ((rd_T28 l0 x36_1).f0))) (fun _ hk => hk.2) (.int .i64 ((rd_T28 l0 x36_1).f1.f0))) (fun _ hk => hk.2) (.int .i64 ((rd_T28 l0 x36_1).f1.f1))) (fun _ hk => hk.2) (.int .i64 ((rd_T28 l0 x36_1).f1.f2))) (fun _ hk => hk.2) (.int .i64 ((rd_T28 l0 x36_1).f1.f3))) (fun _ hk => hk.2) (.int .i32 ((rd_T28 l0 x36_1).f1.f4))) (fun _ hk => hk.2) (.string ((rd_T28 l0 x36_1).f2))) (fun _ h_ => h_.1))) hb); have n1_ := Aside0.mk (blk_below (g := gb215) (o := .cells #[.string ((rd_T28 l0 x36_1).f0), .int .i64 ((rd_T28 l0 x36_1).f1.f0), .int .i64 ((rd_T28 l0 x36_1).f1.f1), .int .i64 ((rd_T28 l0 x36_1).f1.f2), .int .i64 ((rd_T28 l0 x36_1).f1.f3), .int .i32 ((rd_T28 l0 x36_1).f1.f4), .string ((rd_T28 l0 x36_1).f2)] 28 (0, 0)) (by (with_reducible repeat (first | refine blk_drewN ?_ _ | refine blk_drew ?_ | refine blk_alloc ?_ _)); refine blk_put (cs := #[.string ((rd_T28 l0 x36_1).f0), .int .i64 ((rd_T28 l0 x36_1).f1.f0), .int .i64 ((rd_T28 l0 x36_1).f1.f1), .int .i64 ((rd_T28 l0 x36_1).f1.f2), .int .i64 ((rd_T28 l0 x36_1).f1.f3), .int .i32 ((rd_T28 l0 x36_1).f1.f4), .string (⟨#[]⟩ : ByteArray)]) ?_ 6 _ rfl; (with_reducible repeat (first | refine blk_drewN ?_ _ | refine blk_drew ?_ | refine blk_alloc ?_ _)); refine blk_put (cs := #[.string ((rd_T28 l0 x36_1).f0), .int .i64 ((rd_T28 l0 x36_1).f1.f0), .int .i64 ((rd_T28 l0 x36_1).f1.f1), .int .i64 ((rd_T28 l0 x36_1).f1.f2), .int .i64 ((rd_T28 l0 x36_1).f1.f3), .int .i32 0, .string (⟨#[]⟩ : ByteArray)]) ?_ 5 _ rfl; (with_reducible repeat (first | refine blk_drewN ?_ _ | refine blk_drew ?_ | refine blk_alloc ?_ _)); refine blk_put (cs := #[.string ((rd_T28 l0 x36_1).f0), .int .i64 ((rd_T28 l0 x36_1).f1.f0), .int .i64 ((rd_T28 l0 x36_1).f1.f1), .int .i64 ((rd_T28 l0 x36_1).f1.f2), .int .i64 0, .int .i32 0, .string (⟨#[]⟩ : ByteArray)]) ?_ 4 _ rfl; (with_reducible repeat (first | refine blk_drewN ?_ _ | refine blk_drew ?_ | refine blk_alloc ?_ _)); refine blk_put (cs := #[.string ((rd_T28 l0 x36_1).f0), .int .i64 ((rd_T28 l0 x36_1).f1.f0), .int .i64 ((rd_T28 l0 x36_1).f1.f1), .int .i64 0, .int .i64 0, .int .i32 0, .string (⟨#[]⟩ : ByteArray)]) ?_ 3 _ rfl; (with_reducible repeat (first | refine blk_drewN ?_ _ | refine blk_drew ?_ | refine blk_alloc ?_ _)); refine blk_put (cs := #[.string ((rd_T28 l0 x36_1).f0), .int .i64 ((rd_T28 l0 x36_1).f1.f0), .int .i64 0, .int .i64 0, .int .i64 0, .int .i32 0, .string (⟨#[]⟩ : ByteArray)]) ?_ 2 _ rfl; (with_reducible repeat (first | refine blk_drewN ?_ _ | refine blk_drew ?_ | refine blk_alloc ?_ _)); refine blk_put (cs := #[.string ((rd_T28 l0 x36_1).f0), .int .i64 0, .int .i64 0, .int .i64 0, .int .i64 0, .int .i32 0, .string (⟨#[]⟩ : ByteArray)]) ?_ 1 _ rfl; (with_reducible repeat (first | refine blk_drewN ?_ _ | refine blk_drew ?_ | refine blk_alloc ?_ _)); refine blk_put (cs := #[.string (⟨#[]⟩ : ByteArray), .int .i64 0, .int .i64 0, .int .i64 0, .int .i64 0, .int .i32 0, .string (⟨#[]⟩ : ByteArray)]) ?_ 0 _ rfl; (with_reducible repeat (first | refine blk_drewN ?_ _ | refine blk_drew ?_ | refine blk_alloc ?_ _)); exact BK215.out) hb); have n2_ := Aside0.mk (below_step (by repeat (first | (with_reducible first | exact HB.out | apply below_alloc | apply pw_below_drewN | apply below_drew1 | refine below_set ?_ GE215.out) | exact HB.out)) hb); clear HO_3; clear BK215; clear HB; have HO_3 := n0_; have BK215 := n1_; have HB := n2_; clear n0_ n1_ n2_; (try clear hb); (try clear hb2); (try clear hk); (try clear hi)) | ((with_reducible refine gate_dst (N := 11) rfl ?_); refine box_event ?hg (N := 11) ?hd (cs := #[.int .i64 0, .int .i64 0, .int .i64 0, .int .i64 0, .int .i32 0]) (t := 26) ?hr ?_; (case hd => rfl); (case hg => rfl); (case hr => first | (go_simp; done) | (go_simp; rfl)); intro gb225 hg w68 hbox hb; have n0_ := Aside0.mk (Kd.R_below (by (with_reducible repeat (first | apply Kd.R_alloc | apply Kd.R_drewN | apply Kd.R_drew)); exact HO_3.out) hb); have n1_ := Aside0.mk (blk_below (g := gb215) (o := .cells #[.string ((rd_T28 l0 x36_1).f0), .int .i64 ((rd_T28 l0 x36_1).f1.f0), .int .i64 ((rd_T28 l0 x36_1).f1.f1), .int .i64 ((rd_T28 l0 x36_1).f1.f2), .int .i64 ((rd_T28 l0 x36_1).f1.f3), .int .i32 ((rd_T28 l0 x36_1).f1.f4), .string ((rd_T28 l0 x36_1).f2)] 28 (0, 0)) (by (with_reducible repeat (first | refine blk_drewN ?_ _ | refine blk_drew ?_ | refine blk_alloc ?_ _)); exact BK215.out) hb); have n2_ := Aside0.mk (below_step (by repeat (first | (with_reducible first | exact HB.out | apply below_alloc | apply pw_below_drewN | apply below_drew1 | refine below_set ?_ GE215.out) | exact HB.out)) hb); have n3_ := Aside0.mk (hbox); have n4_ := Aside0.mk ((by rw [hg]; exact (below_size (by repeat (first | (with_reducible first | exact HB.out | apply below_alloc | apply pw_below_drewN | apply below_drew1 | refine below_set ?_ GE215.out) | exact HB.out))) : w.heap.size ≤ gb225)); have n5_ := Aside0.mk ((by rw [hg]; exact (below_size (by repeat (first | (with_reducible first | exact HB.out | apply below_alloc | apply pw_below_drewN | apply below_drew1 | refine below_set ?_ GE215.out) | exact HB.out))) : w.heap.size ≤ gb225)); have n6_ := Aside0.mk ((by rw [hg]; exact Nat.ne_of_lt (blk_lt (g := gb215) (o := .cells #[.string ((rd_T28 l0 x36_1).f0), .int .i64 ((rd_T28 l0 x36_1).f1.f0), .int .i64 ((rd_T28 l0 x36_1).f1.f1), .int .i64 ((rd_T28 l0 x36_1).f1.f2), .int .i64 ((rd_T28 l0 x36_1).f1.f3), .int .i32 ((rd_T28 l0 x36_1).f1.f4), .string ((rd_T28 l0 x36_1).f2)] 28 (0, 0)) (by (with_reducible repeat (first | refine blk_drewN ?_ _ | refine blk_drew ?_ | refine blk_alloc ?_ _)); exact BK215.out)) : gb215 ≠ gb225)); have n7_ := Aside0.mk ((by rw [hg]; exact Nat.ne_of_gt (blk_lt (g := gb215) (o := .cells #[.string ((rd_T28 l0 x36_1).f0), .int .i64 ((rd_T28 l0 x36_1).f1.f0), .int .i64 ((rd_T28 l0 x36_1).f1.f1), .int .i64 ((rd_T28 l0 x36_1).f1.f2), .int .i64 ((rd_T28 l0 x36_1).f1.f3), .int .i32 ((rd_T28 l0 x36_1).f1.f4), .string ((rd_T28 l0 x36_1).f2)] 28 (0, 0)) (by (with_reducible repeat (first | refine blk_drewN ?_ _ | refine blk_drew ?_ | refine blk_alloc ?_ _)); exact BK215.out)) : gb225 ≠ gb215)); clear HO_3; clear BK215; clear HB; have HO_3 := n0_; have BK215 := n1_; have HB := n2_; have BK225 := n3_; have GW225 := n4_; have GE225 := n5_; have NB215_225 := n6_; have NB225_215 := n7_; clear n0_ n1_ n2_ n3_ n4_ n5_ n6_ n7_; clear hb hbox hg; have hnb69 := NB225_215.out; have hnc69 := NB215_225.out; have hcz70_0 : w68.cell? ⟨gb225, 0, none⟩ = some (.int .i64 0) := (blk_cell BK225.out 0).trans rfl; have hcz70_1 : w68.cell? ⟨gb225, 1, none⟩ = some (.int .i64 0) := (blk_cell BK225.out 1).trans rfl; have hcz70_2 : w68.cell? ⟨gb225, 2, none⟩ = some (.int .i64 0) := (blk_cell BK225.out 2).trans rfl; have hcz70_3 : w68.cell? ⟨gb225, 3, none⟩ = some (.int .i64 0) := (blk_cell BK225.out 3).trans rfl; have hcz70_4 : w68.cell? ⟨gb225, 4, none⟩ = some (.int .i32 0) := (blk_cell BK225.out 4).trans rfl; have hfz70_0 := blk_frozen BK225.out 0; have hfz70_1 := blk_frozen BK225.out 1; have hfz70_2 := blk_frozen BK225.out 2; have hfz70_3 := blk_frozen BK225.out 3; have hfz70_4 := blk_frozen BK225.out 4))
                          go_ret
                          exact ⟨by first | rfl | (simp [errW_none, errW_some] <;> rfl) | (simp [*, errW_none, errW_some] <;> rfl), by repeat (first | (with_reducible first | exact HB.out | apply below_alloc | apply pw_below_drewN | apply below_drew1 | refine below_set ?_ GE215.out | refine below_set ?_ GE225.out) | exact HB.out)⟩
                      · rw [if_neg c17] at H
                        exact absurd H (by simp)
                    · rw [if_neg c16] at H
                      exact absurd H (by simp)
                · rw [if_neg c11] at H
                  have c11b0 : (((rd_T28 l0 x36_1).f0).toList == ([] : List UInt8)) = false := beq_eq_false_iff_ne.mpr c11
                  have c11b1 : (((rd_T28 l0 x36_1).f0).toList != ([] : List UInt8)) = true := bne_iff_ne.mpr c11
                  replace H := Option.bind_eq_some_iff.mp H
                  obtain ⟨⟨t216, t217⟩, A710, H⟩ := H
                  replace H : (if t217 = true then (if t216 = x6_1 then (curtilagelaw10_AsmGoes.l0 k1 l0 t207 x6_1 l0 (l0.length : Int) (wrap64 (x36_1 + 1))) else (some false)) else (some false)) = some r := H
                  have A71 := Aside0.mk A710
                  clear A710
                  by_cases c72 : t217 = true
                  · subst c72
                    have H1 : (if t216 = x6_1 then (curtilagelaw10_AsmGoes.l0 k1 l0 t207 x6_1 l0 (l0.length : Int) (wrap64 (x36_1 + 1))) else (some false)) = some r := by rw [if_pos rfl] at H; exact H
                    clear H
                    have H := H1
                    clear H1
                    by_cases c73 : t216 = x6_1
                    · rw [if_pos c73] at H
                      have c73b0 : (t216 == x6_1) = true := beq_iff_eq.mpr c73
                      have c73b1 : (t216 != x6_1) = false := bne_eq_false_iff_eq.mpr c73
                      clear c73
                      have H' := Aside0.mk H
                      clear H
                      have p214 : 0 ≤ (x36_1 : Int) := of_decide_eq_true (by first | (with_reducible assumption) | assumption)
                      have q214 : x36_1 < (l0.length : Int) := of_decide_eq_true (by first | (with_reducible assumption) | assumption)
                      obtain ⟨ad214, e214, hx214_0, hx214_1, hx214_2, hx214_3, hx214_4, hx214_5, hx214_6⟩ := at_T28 HR0.out x36_1 p214 q214
                      cases e214
                      replace hx214_0 := (HB.out.cell (World.block_lt_of_cell? w _ hx214_0)).trans hx214_0
                      replace hx214_1 := (HB.out.cell (World.block_lt_of_cell? w _ hx214_1)).trans hx214_1
                      replace hx214_2 := (HB.out.cell (World.block_lt_of_cell? w _ hx214_2)).trans hx214_2
                      replace hx214_3 := (HB.out.cell (World.block_lt_of_cell? w _ hx214_3)).trans hx214_3
                      replace hx214_4 := (HB.out.cell (World.block_lt_of_cell? w _ hx214_4)).trans hx214_4
                      replace hx214_5 := (HB.out.cell (World.block_lt_of_cell? w _ hx214_5)).trans hx214_5
                      replace hx214_6 := (HB.out.cell (World.block_lt_of_cell? w _ hx214_6)).trans hx214_6
                      replace p214 := eq_true p214
                      replace q214 := eq_true q214
                      go_wp2_with (first | ((with_reducible refine gate_dst (N := 8) rfl ?_); refine box_event ?hg (N := 8) ?hd (cs := #[.string (⟨#[]⟩ : ByteArray), .int .i64 0, .int .i64 0, .int .i64 0, .int .i64 0, .int .i32 0, .string (⟨#[]⟩ : ByteArray)]) (t := 28) ?hr ?_; (case hd => rfl); (case hg => rfl); (case hr => first | (go_simp; done) | (go_simp; rfl)); intro gb215 hg w74 hbox hb; have n0_ := Aside0.mk (Kd.R_below (by (with_reducible repeat (first | apply Kd.R_alloc | apply Kd.R_drewN | apply Kd.R_drew)); exact HO_3.out) hb); have n1_ := Aside0.mk (below_step (by repeat (first | (with_reducible first | exact HB.out | apply below_alloc | apply pw_below_drewN | apply below_drew1) | exact HB.out)) hb); have n2_ := Aside0.mk (hbox); have n3_ := Aside0.mk ((by rw [hg]; exact (below_size (by repeat (first | (with_reducible first | exact HB.out | apply below_alloc | apply pw_below_drewN | apply below_drew1) | exact HB.out))) : w.heap.size ≤ gb215)); have n4_ := Aside0.mk ((by rw [hg]; exact (below_size (by repeat (first | (with_reducible first | exact HB.out | apply below_alloc | apply pw_below_drewN | apply below_drew1) | exact HB.out))) : w.heap.size ≤ gb215)); clear HO_3; clear HB; have HO_3 := n0_; have HB := n1_; have BK215 := n2_; have GW215 := n3_; have GE215 := n4_; clear n0_ n1_ n2_ n3_ n4_; clear hb hbox hg; have hcz75_0 : w74.cell? ⟨gb215, 0, none⟩ = some (.string (⟨#[]⟩ : ByteArray)) := (blk_cell BK215.out 0).trans rfl; have hcz75_1 : w74.cell? ⟨gb215, 1, none⟩ = some (.int .i64 0) := (blk_cell BK215.out 1).trans rfl; have hcz75_2 : w74.cell? ⟨gb215, 2, none⟩ = some (.int .i64 0) := (blk_cell BK215.out 2).trans rfl; have hcz75_3 : w74.cell? ⟨gb215, 3, none⟩ = some (.int .i64 0) := (blk_cell BK215.out 3).trans rfl; have hcz75_4 : w74.cell? ⟨gb215, 4, none⟩ = some (.int .i64 0) := (blk_cell BK215.out 4).trans rfl; have hcz75_5 : w74.cell? ⟨gb215, 5, none⟩ = some (.int .i32 0) := (blk_cell BK215.out 5).trans rfl; have hcz75_6 : w74.cell? ⟨gb215, 6, none⟩ = some (.string (⟨#[]⟩ : ByteArray)) := (blk_cell BK215.out 6).trans rfl; have hfz75_0 := blk_frozen BK215.out 0; have hfz75_1 := blk_frozen BK215.out 1; have hfz75_2 := blk_frozen BK215.out 2; have hfz75_3 := blk_frozen BK215.out 3; have hfz75_4 := blk_frozen BK215.out 4; have hfz75_5 := blk_frozen BK215.out 5; have hfz75_6 := blk_frozen BK215.out 6) | ((with_reducible refine gate_callee (f := 10) rfl ?_); refine goesL_ (some 47) rfl rfl Tryd.func10 (by kernel_rfl) rfl #[.slice (some ad214) l0.length c0, .string ((rd_T28 l0 x36_1).f0)] rfl (by (try simp only [List.map_toArray, List.map_cons, List.map_nil]); first | done | rfl | (simp only [List.length_drop, List.length_take]; rfl)) ?_; (with_reducible refine (asm_Find.calls _ _ l0 ((rd_T28 l0 x36_1).f0) t216 true _ ?side1 ?side2 A71.out).mono ?_); (case side1 => exact Kd.C_below HR0.out (by repeat (first | (with_reducible first | exact HB.out | apply below_alloc | apply pw_below_drewN | apply below_drew1 | refine below_set ?_ GE215.out) | exact HB.out))); (case side2 => exact HC0.out); rintro e w76 ⟨rfl, hb⟩; refine ⟨_, rfl, ?_⟩; have n0_ := Aside0.mk (Kd.R_below (by (with_reducible repeat (first | apply Kd.R_alloc | apply Kd.R_drewN | apply Kd.R_drew)); exact (Kd.R_mono (Kd.R_far (p := ⟨gb215, 6, none⟩) (Kd.R_far (p := ⟨gb215, 5, none⟩) (Kd.R_far (p := ⟨gb215, 4, none⟩) (Kd.R_far (p := ⟨gb215, 3, none⟩) (Kd.R_far (p := ⟨gb215, 2, none⟩) (Kd.R_far (p := ⟨gb215, 1, none⟩) (Kd.R_far (p := ⟨gb215, 0, none⟩) (Kd.R_types HO_3.out BK215.out (by decide)) (fun _ hk => hk.2) (.string ((rd_T28 l0 x36_1).f0))) (fun _ hk => hk.2) (.int .i64 ((rd_T28 l0 x36_1).f1.f0))) (fun _ hk => hk.2) (.int .i64 ((rd_T28 l0 x36_1).f1.f1))) (fun _ hk => hk.2) (.int .i64 ((rd_T28 l0 x36_1).f1.f2))) (fun _ hk => hk.2) (.int .i64 ((rd_T28 l0 x36_1).f1.f3))) (fun _ hk => hk.2) (.int .i32 ((rd_T28 l0 x36_1).f1.f4))) (fun _ hk => hk.2) (.string ((rd_T28 l0 x36_1).f2))) (fun _ h_ => h_.1))) hb); have n1_ := Aside0.mk (blk_below (g := gb215) (o := .cells #[.string ((rd_T28 l0 x36_1).f0), .int .i64 ((rd_T28 l0 x36_1).f1.f0), .int .i64 ((rd_T28 l0 x36_1).f1.f1), .int .i64 ((rd_T28 l0 x36_1).f1.f2), .int .i64 ((rd_T28 l0 x36_1).f1.f3), .int .i32 ((rd_T28 l0 x36_1).f1.f4), .string ((rd_T28 l0 x36_1).f2)] 28 (0, 0)) (by (with_reducible repeat (first | refine blk_drewN ?_ _ | refine blk_drew ?_ | refine blk_alloc ?_ _)); refine blk_put (cs := #[.string ((rd_T28 l0 x36_1).f0), .int .i64 ((rd_T28 l0 x36_1).f1.f0), .int .i64 ((rd_T28 l0 x36_1).f1.f1), .int .i64 ((rd_T28 l0 x36_1).f1.f2), .int .i64 ((rd_T28 l0 x36_1).f1.f3), .int .i32 ((rd_T28 l0 x36_1).f1.f4), .string (⟨#[]⟩ : ByteArray)]) ?_ 6 _ rfl; (with_reducible repeat (first | refine blk_drewN ?_ _ | refine blk_drew ?_ | refine blk_alloc ?_ _)); refine blk_put (cs := #[.string ((rd_T28 l0 x36_1).f0), .int .i64 ((rd_T28 l0 x36_1).f1.f0), .int .i64 ((rd_T28 l0 x36_1).f1.f1), .int .i64 ((rd_T28 l0 x36_1).f1.f2), .int .i64 ((rd_T28 l0 x36_1).f1.f3), .int .i32 0, .string (⟨#[]⟩ : ByteArray)]) ?_ 5 _ rfl; (with_reducible repeat (first | refine blk_drewN ?_ _ | refine blk_drew ?_ | refine blk_alloc ?_ _)); refine blk_put (cs := #[.string ((rd_T28 l0 x36_1).f0), .int .i64 ((rd_T28 l0 x36_1).f1.f0), .int .i64 ((rd_T28 l0 x36_1).f1.f1), .int .i64 ((rd_T28 l0 x36_1).f1.f2), .int .i64 0, .int .i32 0, .string (⟨#[]⟩ : ByteArray)]) ?_ 4 _ rfl; (with_reducible repeat (first | refine blk_drewN ?_ _ | refine blk_drew ?_ | refine blk_alloc ?_ _)); refine blk_put (cs := #[.string ((rd_T28 l0 x36_1).f0), .int .i64 ((rd_T28 l0 x36_1).f1.f0), .int .i64 ((rd_T28 l0 x36_1).f1.f1), .int .i64 0, .int .i64 0, .int .i32 0, .string (⟨#[]⟩ : ByteArray)]) ?_ 3 _ rfl; (with_reducible repeat (first | refine blk_drewN ?_ _ | refine blk_drew ?_ | refine blk_alloc ?_ _)); refine blk_put (cs := #[.string ((rd_T28 l0 x36_1).f0), .int .i64 ((rd_T28 l0 x36_1).f1.f0), .int .i64 0, .int .i64 0, .int .i64 0, .int .i32 0, .string (⟨#[]⟩ : ByteArray)]) ?_ 2 _ rfl; (with_reducible repeat (first | refine blk_drewN ?_ _ | refine blk_drew ?_ | refine blk_alloc ?_ _)); refine blk_put (cs := #[.string ((rd_T28 l0 x36_1).f0), .int .i64 0, .int .i64 0, .int .i64 0, .int .i64 0, .int .i32 0, .string (⟨#[]⟩ : ByteArray)]) ?_ 1 _ rfl; (with_reducible repeat (first | refine blk_drewN ?_ _ | refine blk_drew ?_ | refine blk_alloc ?_ _)); refine blk_put (cs := #[.string (⟨#[]⟩ : ByteArray), .int .i64 0, .int .i64 0, .int .i64 0, .int .i64 0, .int .i32 0, .string (⟨#[]⟩ : ByteArray)]) ?_ 0 _ rfl; (with_reducible repeat (first | refine blk_drewN ?_ _ | refine blk_drew ?_ | refine blk_alloc ?_ _)); exact BK215.out) hb); have n2_ := Aside0.mk (below_step (by repeat (first | (with_reducible first | exact HB.out | apply below_alloc | apply pw_below_drewN | apply below_drew1 | refine below_set ?_ GE215.out) | exact HB.out)) hb); clear HO_3; clear BK215; clear HB; have HO_3 := n0_; have BK215 := n1_; have HB := n2_; clear n0_ n1_ n2_; (try clear hb); (try clear hb2); (try clear hk); (try clear hi)))
                      go_roundg k1
                      case measure => have := HK1.out; omega
                      case rel => exact ⟨(x6_1), (wrap64 (x36_1 + 1)), (by first | rfl | (simp; done) | (simp [*]; done)), (by first | rfl | (simp; done) | (simp [*]; done)), H', ⟨by have := HK1.out; omega⟩, ⟨by (with_reducible repeat (first | apply Kd.R_alloc | apply Kd.R_drewN | apply Kd.R_drew)); exact HO_3.out⟩, ⟨by repeat (first | (with_reducible first | exact HB.out | apply below_alloc | apply pw_below_drewN | apply below_drew1 | refine below_set ?_ GE215.out) | exact HB.out)⟩⟩
                    · rw [if_neg c73] at H
                      have c73b0 : (t216 == x6_1) = false := beq_eq_false_iff_ne.mpr c73
                      have c73b1 : (t216 != x6_1) = true := bne_iff_ne.mpr c73
                      obtain rfl := Option.some.inj H
                      have p214 : 0 ≤ (x36_1 : Int) := of_decide_eq_true (by first | (with_reducible assumption) | assumption)
                      have q214 : x36_1 < (l0.length : Int) := of_decide_eq_true (by first | (with_reducible assumption) | assumption)
                      obtain ⟨ad214, e214, hx214_0, hx214_1, hx214_2, hx214_3, hx214_4, hx214_5, hx214_6⟩ := at_T28 HR0.out x36_1 p214 q214
                      cases e214
                      replace hx214_0 := (HB.out.cell (World.block_lt_of_cell? w _ hx214_0)).trans hx214_0
                      replace hx214_1 := (HB.out.cell (World.block_lt_of_cell? w _ hx214_1)).trans hx214_1
                      replace hx214_2 := (HB.out.cell (World.block_lt_of_cell? w _ hx214_2)).trans hx214_2
                      replace hx214_3 := (HB.out.cell (World.block_lt_of_cell? w _ hx214_3)).trans hx214_3
                      replace hx214_4 := (HB.out.cell (World.block_lt_of_cell? w _ hx214_4)).trans hx214_4
                      replace hx214_5 := (HB.out.cell (World.block_lt_of_cell? w _ hx214_5)).trans hx214_5
                      replace hx214_6 := (HB.out.cell (World.block_lt_of_cell? w _ hx214_6)).trans hx214_6
                      replace p214 := eq_true p214
                      replace q214 := eq_true q214
                      go_wp2_with (first | ((with_reducible refine gate_dst (N := 8) rfl ?_); refine box_event ?hg (N := 8) ?hd (cs := #[.string (⟨#[]⟩ : ByteArray), .int .i64 0, .int .i64 0, .int .i64 0, .int .i64 0, .int .i32 0, .string (⟨#[]⟩ : ByteArray)]) (t := 28) ?hr ?_; (case hd => rfl); (case hg => rfl); (case hr => first | (go_simp; done) | (go_simp; rfl)); intro gb215 hg w77 hbox hb; have n0_ := Aside0.mk (Kd.R_below (by (with_reducible repeat (first | apply Kd.R_alloc | apply Kd.R_drewN | apply Kd.R_drew)); exact HO_3.out) hb); have n1_ := Aside0.mk (below_step (by repeat (first | (with_reducible first | exact HB.out | apply below_alloc | apply pw_below_drewN | apply below_drew1) | exact HB.out)) hb); have n2_ := Aside0.mk (hbox); have n3_ := Aside0.mk ((by rw [hg]; exact (below_size (by repeat (first | (with_reducible first | exact HB.out | apply below_alloc | apply pw_below_drewN | apply below_drew1) | exact HB.out))) : w.heap.size ≤ gb215)); have n4_ := Aside0.mk ((by rw [hg]; exact (below_size (by repeat (first | (with_reducible first | exact HB.out | apply below_alloc | apply pw_below_drewN | apply below_drew1) | exact HB.out))) : w.heap.size ≤ gb215)); clear HO_3; clear HB; have HO_3 := n0_; have HB := n1_; have BK215 := n2_; have GW215 := n3_; have GE215 := n4_; clear n0_ n1_ n2_ n3_ n4_; clear hb hbox hg; have hcz78_0 : w77.cell? ⟨gb215, 0, none⟩ = some (.string (⟨#[]⟩ : ByteArray)) := (blk_cell BK215.out 0).trans rfl; have hcz78_1 : w77.cell? ⟨gb215, 1, none⟩ = some (.int .i64 0) := (blk_cell BK215.out 1).trans rfl; have hcz78_2 : w77.cell? ⟨gb215, 2, none⟩ = some (.int .i64 0) := (blk_cell BK215.out 2).trans rfl; have hcz78_3 : w77.cell? ⟨gb215, 3, none⟩ = some (.int .i64 0) := (blk_cell BK215.out 3).trans rfl; have hcz78_4 : w77.cell? ⟨gb215, 4, none⟩ = some (.int .i64 0) := (blk_cell BK215.out 4).trans rfl; have hcz78_5 : w77.cell? ⟨gb215, 5, none⟩ = some (.int .i32 0) := (blk_cell BK215.out 5).trans rfl; have hcz78_6 : w77.cell? ⟨gb215, 6, none⟩ = some (.string (⟨#[]⟩ : ByteArray)) := (blk_cell BK215.out 6).trans rfl; have hfz78_0 := blk_frozen BK215.out 0; have hfz78_1 := blk_frozen BK215.out 1; have hfz78_2 := blk_frozen BK215.out 2; have hfz78_3 := blk_frozen BK215.out 3; have hfz78_4 := blk_frozen BK215.out 4; have hfz78_5 := blk_frozen BK215.out 5; have hfz78_6 := blk_frozen BK215.out 6) | ((with_reducible refine gate_callee (f := 10) rfl ?_); refine goesL_ (some 47) rfl rfl Tryd.func10 (by kernel_rfl) rfl #[.slice (some ad214) l0.length c0, .string ((rd_T28 l0 x36_1).f0)] rfl (by (try simp only [List.map_toArray, List.map_cons, List.map_nil]); first | done | rfl | (simp only [List.length_drop, List.length_take]; rfl)) ?_; (with_reducible refine (asm_Find.calls _ _ l0 ((rd_T28 l0 x36_1).f0) t216 true _ ?side1 ?side2 A71.out).mono ?_); (case side1 => exact Kd.C_below HR0.out (by repeat (first | (with_reducible first | exact HB.out | apply below_alloc | apply pw_below_drewN | apply below_drew1 | refine below_set ?_ GE215.out) | exact HB.out))); (case side2 => exact HC0.out); rintro e w79 ⟨rfl, hb⟩; refine ⟨_, rfl, ?_⟩; have n0_ := Aside0.mk (Kd.R_below (by (with_reducible repeat (first | apply Kd.R_alloc | apply Kd.R_drewN | apply Kd.R_drew)); exact (Kd.R_mono (Kd.R_far (p := ⟨gb215, 6, none⟩) (Kd.R_far (p := ⟨gb215, 5, none⟩) (Kd.R_far (p := ⟨gb215, 4, none⟩) (Kd.R_far (p := ⟨gb215, 3, none⟩) (Kd.R_far (p := ⟨gb215, 2, none⟩) (Kd.R_far (p := ⟨gb215, 1, none⟩) (Kd.R_far (p := ⟨gb215, 0, none⟩) (Kd.R_types HO_3.out BK215.out (by decide)) (fun _ hk => hk.2) (.string ((rd_T28 l0 x36_1).f0))) (fun _ hk => hk.2) (.int .i64 ((rd_T28 l0 x36_1).f1.f0))) (fun _ hk => hk.2) (.int .i64 ((rd_T28 l0 x36_1).f1.f1))) (fun _ hk => hk.2) (.int .i64 ((rd_T28 l0 x36_1).f1.f2))) (fun _ hk => hk.2) (.int .i64 ((rd_T28 l0 x36_1).f1.f3))) (fun _ hk => hk.2) (.int .i32 ((rd_T28 l0 x36_1).f1.f4))) (fun _ hk => hk.2) (.string ((rd_T28 l0 x36_1).f2))) (fun _ h_ => h_.1))) hb); have n1_ := Aside0.mk (blk_below (g := gb215) (o := .cells #[.string ((rd_T28 l0 x36_1).f0), .int .i64 ((rd_T28 l0 x36_1).f1.f0), .int .i64 ((rd_T28 l0 x36_1).f1.f1), .int .i64 ((rd_T28 l0 x36_1).f1.f2), .int .i64 ((rd_T28 l0 x36_1).f1.f3), .int .i32 ((rd_T28 l0 x36_1).f1.f4), .string ((rd_T28 l0 x36_1).f2)] 28 (0, 0)) (by (with_reducible repeat (first | refine blk_drewN ?_ _ | refine blk_drew ?_ | refine blk_alloc ?_ _)); refine blk_put (cs := #[.string ((rd_T28 l0 x36_1).f0), .int .i64 ((rd_T28 l0 x36_1).f1.f0), .int .i64 ((rd_T28 l0 x36_1).f1.f1), .int .i64 ((rd_T28 l0 x36_1).f1.f2), .int .i64 ((rd_T28 l0 x36_1).f1.f3), .int .i32 ((rd_T28 l0 x36_1).f1.f4), .string (⟨#[]⟩ : ByteArray)]) ?_ 6 _ rfl; (with_reducible repeat (first | refine blk_drewN ?_ _ | refine blk_drew ?_ | refine blk_alloc ?_ _)); refine blk_put (cs := #[.string ((rd_T28 l0 x36_1).f0), .int .i64 ((rd_T28 l0 x36_1).f1.f0), .int .i64 ((rd_T28 l0 x36_1).f1.f1), .int .i64 ((rd_T28 l0 x36_1).f1.f2), .int .i64 ((rd_T28 l0 x36_1).f1.f3), .int .i32 0, .string (⟨#[]⟩ : ByteArray)]) ?_ 5 _ rfl; (with_reducible repeat (first | refine blk_drewN ?_ _ | refine blk_drew ?_ | refine blk_alloc ?_ _)); refine blk_put (cs := #[.string ((rd_T28 l0 x36_1).f0), .int .i64 ((rd_T28 l0 x36_1).f1.f0), .int .i64 ((rd_T28 l0 x36_1).f1.f1), .int .i64 ((rd_T28 l0 x36_1).f1.f2), .int .i64 0, .int .i32 0, .string (⟨#[]⟩ : ByteArray)]) ?_ 4 _ rfl; (with_reducible repeat (first | refine blk_drewN ?_ _ | refine blk_drew ?_ | refine blk_alloc ?_ _)); refine blk_put (cs := #[.string ((rd_T28 l0 x36_1).f0), .int .i64 ((rd_T28 l0 x36_1).f1.f0), .int .i64 ((rd_T28 l0 x36_1).f1.f1), .int .i64 0, .int .i64 0, .int .i32 0, .string (⟨#[]⟩ : ByteArray)]) ?_ 3 _ rfl; (with_reducible repeat (first | refine blk_drewN ?_ _ | refine blk_drew ?_ | refine blk_alloc ?_ _)); refine blk_put (cs := #[.string ((rd_T28 l0 x36_1).f0), .int .i64 ((rd_T28 l0 x36_1).f1.f0), .int .i64 0, .int .i64 0, .int .i64 0, .int .i32 0, .string (⟨#[]⟩ : ByteArray)]) ?_ 2 _ rfl; (with_reducible repeat (first | refine blk_drewN ?_ _ | refine blk_drew ?_ | refine blk_alloc ?_ _)); refine blk_put (cs := #[.string ((rd_T28 l0 x36_1).f0), .int .i64 0, .int .i64 0, .int .i64 0, .int .i64 0, .int .i32 0, .string (⟨#[]⟩ : ByteArray)]) ?_ 1 _ rfl; (with_reducible repeat (first | refine blk_drewN ?_ _ | refine blk_drew ?_ | refine blk_alloc ?_ _)); refine blk_put (cs := #[.string (⟨#[]⟩ : ByteArray), .int .i64 0, .int .i64 0, .int .i64 0, .int .i64 0, .int .i32 0, .string (⟨#[]⟩ : ByteArray)]) ?_ 0 _ rfl; (with_reducible repeat (first | refine blk_drewN ?_ _ | refine blk_drew ?_ | refine blk_alloc ?_ _)); exact BK215.out) hb); have n2_ := Aside0.mk (below_step (by repeat (first | (with_reducible first | exact HB.out | apply below_alloc | apply pw_below_drewN | apply below_drew1 | refine below_set ?_ GE215.out) | exact HB.out)) hb); clear HO_3; clear BK215; clear HB; have HO_3 := n0_; have BK215 := n1_; have HB := n2_; clear n0_ n1_ n2_; (try clear hb); (try clear hb2); (try clear hk); (try clear hi)))
                      go_ret
                      exact ⟨by first | rfl | (simp [errW_none, errW_some] <;> rfl) | (simp [*, errW_none, errW_some] <;> rfl), by repeat (first | (with_reducible first | exact HB.out | apply below_alloc | apply pw_below_drewN | apply below_drew1 | refine below_set ?_ GE215.out) | exact HB.out)⟩
                  · replace c72 := Bool.eq_false_iff.mpr c72
                    subst c72
                    have H1 : (some false) = some r := by rw [if_neg (show ¬ (false = true) by decide)] at H; exact H
                    clear H
                    have H := H1
                    clear H1
                    obtain rfl := Option.some.inj H
                    have p214 : 0 ≤ (x36_1 : Int) := of_decide_eq_true (by first | (with_reducible assumption) | assumption)
                    have q214 : x36_1 < (l0.length : Int) := of_decide_eq_true (by first | (with_reducible assumption) | assumption)
                    obtain ⟨ad214, e214, hx214_0, hx214_1, hx214_2, hx214_3, hx214_4, hx214_5, hx214_6⟩ := at_T28 HR0.out x36_1 p214 q214
                    cases e214
                    replace hx214_0 := (HB.out.cell (World.block_lt_of_cell? w _ hx214_0)).trans hx214_0
                    replace hx214_1 := (HB.out.cell (World.block_lt_of_cell? w _ hx214_1)).trans hx214_1
                    replace hx214_2 := (HB.out.cell (World.block_lt_of_cell? w _ hx214_2)).trans hx214_2
                    replace hx214_3 := (HB.out.cell (World.block_lt_of_cell? w _ hx214_3)).trans hx214_3
                    replace hx214_4 := (HB.out.cell (World.block_lt_of_cell? w _ hx214_4)).trans hx214_4
                    replace hx214_5 := (HB.out.cell (World.block_lt_of_cell? w _ hx214_5)).trans hx214_5
                    replace hx214_6 := (HB.out.cell (World.block_lt_of_cell? w _ hx214_6)).trans hx214_6
                    replace p214 := eq_true p214
                    replace q214 := eq_true q214
                    go_wp2_with (first | ((with_reducible refine gate_dst (N := 8) rfl ?_); refine box_event ?hg (N := 8) ?hd (cs := #[.string (⟨#[]⟩ : ByteArray), .int .i64 0, .int .i64 0, .int .i64 0, .int .i64 0, .int .i32 0, .string (⟨#[]⟩ : ByteArray)]) (t := 28) ?hr ?_; (case hd => rfl); (case hg => rfl); (case hr => first | (go_simp; done) | (go_simp; rfl)); intro gb215 hg w80 hbox hb; have n0_ := Aside0.mk (Kd.R_below (by (with_reducible repeat (first | apply Kd.R_alloc | apply Kd.R_drewN | apply Kd.R_drew)); exact HO_3.out) hb); have n1_ := Aside0.mk (below_step (by repeat (first | (with_reducible first | exact HB.out | apply below_alloc | apply pw_below_drewN | apply below_drew1) | exact HB.out)) hb); have n2_ := Aside0.mk (hbox); have n3_ := Aside0.mk ((by rw [hg]; exact (below_size (by repeat (first | (with_reducible first | exact HB.out | apply below_alloc | apply pw_below_drewN | apply below_drew1) | exact HB.out))) : w.heap.size ≤ gb215)); have n4_ := Aside0.mk ((by rw [hg]; exact (below_size (by repeat (first | (with_reducible first | exact HB.out | apply below_alloc | apply pw_below_drewN | apply below_drew1) | exact HB.out))) : w.heap.size ≤ gb215)); clear HO_3; clear HB; have HO_3 := n0_; have HB := n1_; have BK215 := n2_; have GW215 := n3_; have GE215 := n4_; clear n0_ n1_ n2_ n3_ n4_; clear hb hbox hg; have hcz81_0 : w80.cell? ⟨gb215, 0, none⟩ = some (.string (⟨#[]⟩ : ByteArray)) := (blk_cell BK215.out 0).trans rfl; have hcz81_1 : w80.cell? ⟨gb215, 1, none⟩ = some (.int .i64 0) := (blk_cell BK215.out 1).trans rfl; have hcz81_2 : w80.cell? ⟨gb215, 2, none⟩ = some (.int .i64 0) := (blk_cell BK215.out 2).trans rfl; have hcz81_3 : w80.cell? ⟨gb215, 3, none⟩ = some (.int .i64 0) := (blk_cell BK215.out 3).trans rfl; have hcz81_4 : w80.cell? ⟨gb215, 4, none⟩ = some (.int .i64 0) := (blk_cell BK215.out 4).trans rfl; have hcz81_5 : w80.cell? ⟨gb215, 5, none⟩ = some (.int .i32 0) := (blk_cell BK215.out 5).trans rfl; have hcz81_6 : w80.cell? ⟨gb215, 6, none⟩ = some (.string (⟨#[]⟩ : ByteArray)) := (blk_cell BK215.out 6).trans rfl; have hfz81_0 := blk_frozen BK215.out 0; have hfz81_1 := blk_frozen BK215.out 1; have hfz81_2 := blk_frozen BK215.out 2; have hfz81_3 := blk_frozen BK215.out 3; have hfz81_4 := blk_frozen BK215.out 4; have hfz81_5 := blk_frozen BK215.out 5; have hfz81_6 := blk_frozen BK215.out 6) | ((with_reducible refine gate_callee (f := 10) rfl ?_); refine goesL_ (some 47) rfl rfl Tryd.func10 (by kernel_rfl) rfl #[.slice (some ad214) l0.length c0, .string ((rd_T28 l0 x36_1).f0)] rfl (by (try simp only [List.map_toArray, List.map_cons, List.map_nil]); first | done | rfl | (simp only [List.length_drop, List.length_take]; rfl)) ?_; (with_reducible refine (asm_Find.calls _ _ l0 ((rd_T28 l0 x36_1).f0) t216 false _ ?side1 ?side2 A71.out).mono ?_); (case side1 => exact Kd.C_below HR0.out (by repeat (first | (with_reducible first | exact HB.out | apply below_alloc | apply pw_below_drewN | apply below_drew1 | refine below_set ?_ GE215.out) | exact HB.out))); (case side2 => exact HC0.out); rintro e w82 ⟨rfl, hb⟩; refine ⟨_, rfl, ?_⟩; have n0_ := Aside0.mk (Kd.R_below (by (with_reducible repeat (first | apply Kd.R_alloc | apply Kd.R_drewN | apply Kd.R_drew)); exact (Kd.R_mono (Kd.R_far (p := ⟨gb215, 6, none⟩) (Kd.R_far (p := ⟨gb215, 5, none⟩) (Kd.R_far (p := ⟨gb215, 4, none⟩) (Kd.R_far (p := ⟨gb215, 3, none⟩) (Kd.R_far (p := ⟨gb215, 2, none⟩) (Kd.R_far (p := ⟨gb215, 1, none⟩) (Kd.R_far (p := ⟨gb215, 0, none⟩) (Kd.R_types HO_3.out BK215.out (by decide)) (fun _ hk => hk.2) (.string ((rd_T28 l0 x36_1).f0))) (fun _ hk => hk.2) (.int .i64 ((rd_T28 l0 x36_1).f1.f0))) (fun _ hk => hk.2) (.int .i64 ((rd_T28 l0 x36_1).f1.f1))) (fun _ hk => hk.2) (.int .i64 ((rd_T28 l0 x36_1).f1.f2))) (fun _ hk => hk.2) (.int .i64 ((rd_T28 l0 x36_1).f1.f3))) (fun _ hk => hk.2) (.int .i32 ((rd_T28 l0 x36_1).f1.f4))) (fun _ hk => hk.2) (.string ((rd_T28 l0 x36_1).f2))) (fun _ h_ => h_.1))) hb); have n1_ := Aside0.mk (blk_below (g := gb215) (o := .cells #[.string ((rd_T28 l0 x36_1).f0), .int .i64 ((rd_T28 l0 x36_1).f1.f0), .int .i64 ((rd_T28 l0 x36_1).f1.f1), .int .i64 ((rd_T28 l0 x36_1).f1.f2), .int .i64 ((rd_T28 l0 x36_1).f1.f3), .int .i32 ((rd_T28 l0 x36_1).f1.f4), .string ((rd_T28 l0 x36_1).f2)] 28 (0, 0)) (by (with_reducible repeat (first | refine blk_drewN ?_ _ | refine blk_drew ?_ | refine blk_alloc ?_ _)); refine blk_put (cs := #[.string ((rd_T28 l0 x36_1).f0), .int .i64 ((rd_T28 l0 x36_1).f1.f0), .int .i64 ((rd_T28 l0 x36_1).f1.f1), .int .i64 ((rd_T28 l0 x36_1).f1.f2), .int .i64 ((rd_T28 l0 x36_1).f1.f3), .int .i32 ((rd_T28 l0 x36_1).f1.f4), .string (⟨#[]⟩ : ByteArray)]) ?_ 6 _ rfl; (with_reducible repeat (first | refine blk_drewN ?_ _ | refine blk_drew ?_ | refine blk_alloc ?_ _)); refine blk_put (cs := #[.string ((rd_T28 l0 x36_1).f0), .int .i64 ((rd_T28 l0 x36_1).f1.f0), .int .i64 ((rd_T28 l0 x36_1).f1.f1), .int .i64 ((rd_T28 l0 x36_1).f1.f2), .int .i64 ((rd_T28 l0 x36_1).f1.f3), .int .i32 0, .string (⟨#[]⟩ : ByteArray)]) ?_ 5 _ rfl; (with_reducible repeat (first | refine blk_drewN ?_ _ | refine blk_drew ?_ | refine blk_alloc ?_ _)); refine blk_put (cs := #[.string ((rd_T28 l0 x36_1).f0), .int .i64 ((rd_T28 l0 x36_1).f1.f0), .int .i64 ((rd_T28 l0 x36_1).f1.f1), .int .i64 ((rd_T28 l0 x36_1).f1.f2), .int .i64 0, .int .i32 0, .string (⟨#[]⟩ : ByteArray)]) ?_ 4 _ rfl; (with_reducible repeat (first | refine blk_drewN ?_ _ | refine blk_drew ?_ | refine blk_alloc ?_ _)); refine blk_put (cs := #[.string ((rd_T28 l0 x36_1).f0), .int .i64 ((rd_T28 l0 x36_1).f1.f0), .int .i64 ((rd_T28 l0 x36_1).f1.f1), .int .i64 0, .int .i64 0, .int .i32 0, .string (⟨#[]⟩ : ByteArray)]) ?_ 3 _ rfl; (with_reducible repeat (first | refine blk_drewN ?_ _ | refine blk_drew ?_ | refine blk_alloc ?_ _)); refine blk_put (cs := #[.string ((rd_T28 l0 x36_1).f0), .int .i64 ((rd_T28 l0 x36_1).f1.f0), .int .i64 0, .int .i64 0, .int .i64 0, .int .i32 0, .string (⟨#[]⟩ : ByteArray)]) ?_ 2 _ rfl; (with_reducible repeat (first | refine blk_drewN ?_ _ | refine blk_drew ?_ | refine blk_alloc ?_ _)); refine blk_put (cs := #[.string ((rd_T28 l0 x36_1).f0), .int .i64 0, .int .i64 0, .int .i64 0, .int .i64 0, .int .i32 0, .string (⟨#[]⟩ : ByteArray)]) ?_ 1 _ rfl; (with_reducible repeat (first | refine blk_drewN ?_ _ | refine blk_drew ?_ | refine blk_alloc ?_ _)); refine blk_put (cs := #[.string (⟨#[]⟩ : ByteArray), .int .i64 0, .int .i64 0, .int .i64 0, .int .i64 0, .int .i32 0, .string (⟨#[]⟩ : ByteArray)]) ?_ 0 _ rfl; (with_reducible repeat (first | refine blk_drewN ?_ _ | refine blk_drew ?_ | refine blk_alloc ?_ _)); exact BK215.out) hb); have n2_ := Aside0.mk (below_step (by repeat (first | (with_reducible first | exact HB.out | apply below_alloc | apply pw_below_drewN | apply below_drew1 | refine below_set ?_ GE215.out) | exact HB.out)) hb); clear HO_3; clear BK215; clear HB; have HO_3 := n0_; have BK215 := n1_; have HB := n2_; clear n0_ n1_ n2_; (try clear hb); (try clear hb2); (try clear hk); (try clear hi)))
                    go_ret
                    exact ⟨by first | rfl | (simp [errW_none, errW_some] <;> rfl) | (simp [*, errW_none, errW_some] <;> rfl), by repeat (first | (with_reducible first | exact HB.out | apply below_alloc | apply pw_below_drewN | apply below_drew1 | refine below_set ?_ GE215.out) | exact HB.out)⟩
              · rw [if_neg c10] at H
                exact absurd H (by simp)
            · rw [if_neg c9] at H
              exact absurd H (by simp)
          · rw [if_neg c8] at H
            have c8b0 : decide (x36_1 < (l0.length : Int)) = false := decide_eq_false c8
            clear c8
            by_cases c83 : x6_1 = (t207.length : Int)
            · rw [if_pos c83] at H
              have c83b0 : (x6_1 == (t207.length : Int)) = true := beq_iff_eq.mpr c83
              have c83b1 : (x6_1 != (t207.length : Int)) = false := bne_eq_false_iff_eq.mpr c83
              clear c83
              replace H := Option.bind_eq_some_iff.mp H
              obtain ⟨t213, A840, H⟩ := H
              replace H : (some t213) = some r := H
              have A84 := Aside0.mk A840
              clear A840
              obtain rfl := Option.some.inj H
              obtain ⟨Ao85, co85, eo85⟩ := Kd.R_slice HO_3.out
              subst eo85
              go_wp2_with (first | (go_at_call 6; (with_reducible refine (curtilagelaw10_awake.calls  t213 _ (env_mono HTAB.out (by repeat (first | (with_reducible first | exact HB.out | apply below_alloc | apply pw_below_drewN | apply below_drew1) | exact HB.out))) A84.out).mono ?_); rintro e w86 ⟨rfl, hb⟩; have n0_ := Aside0.mk (Kd.R_below (by (with_reducible repeat (first | apply Kd.R_alloc | apply Kd.R_drewN | apply Kd.R_drew)); exact HO_3.out) hb); have n1_ := Aside0.mk (below_step (by repeat (first | (with_reducible first | exact HB.out | apply below_alloc | apply pw_below_drewN | apply below_drew1) | exact HB.out)) hb); clear HO_3; clear HB; have HO_3 := n0_; have HB := n1_; clear n0_ n1_; (try clear hb); (try clear hb2); (try clear hk); (try clear hi)))
              go_ret
              exact ⟨by first | rfl | (simp [errW_none, errW_some] <;> rfl) | (simp [*, errW_none, errW_some] <;> rfl), by repeat (first | (with_reducible first | exact HB.out | apply below_alloc | apply pw_below_drewN | apply below_drew1) | exact HB.out)⟩
            · rw [if_neg c83] at H
              have c83b0 : (x6_1 == (t207.length : Int)) = false := beq_eq_false_iff_ne.mpr c83
              have c83b1 : (x6_1 != (t207.length : Int)) = true := bne_iff_ne.mpr c83
              obtain rfl := Option.some.inj H
              obtain ⟨Ao87, co87, eo87⟩ := Kd.R_slice HO_3.out
              subst eo87
              go_wp2
              go_ret
              exact ⟨by first | rfl | (simp [errW_none, errW_some] <;> rfl) | (simp [*, errW_none, errW_some] <;> rfl), by repeat (first | (with_reducible first | exact HB.out | apply below_alloc | apply pw_below_drewN | apply below_drew1) | exact HB.out)⟩
    · rw [if_neg c5] at H
      have c5b0 : (t209 == 0) = false := beq_eq_false_iff_ne.mpr c5
      have c5b1 : (t209 != 0) = true := bne_iff_ne.mpr c5
      by_cases c88 : (t207.length : Int) = 0
      · rw [if_pos c88] at H
        have c88b0 : ((t207.length : Int) == 0) = true := beq_iff_eq.mpr c88
        have c88b1 : ((t207.length : Int) != 0) = false := bne_eq_false_iff_eq.mpr c88
        clear c88
        replace H := Option.bind_eq_some_iff.mp H
        obtain ⟨t212, A890, H⟩ := H
        replace H : (some t212) = some r := H
        have A89 := Aside0.mk A890
        clear A890
        obtain rfl := Option.some.inj H
        go_enter Tryd.func4, Tryd.ntmps4
        go_wp2_with (first | ((with_reducible refine gate_callee (f := 5) rfl ?_); refine goesL_ (some 17) rfl rfl Tryd.func5 (by kernel_rfl) rfl #[.slice A0 l0.length c0] rfl (by (try simp only [List.map_toArray, List.map_cons, List.map_nil]); first | done | rfl | (simp only [List.length_drop, List.length_take]; rfl)) ?_; (with_reducible refine (curtilagelaw10_few.calls k _ _ l0 true _ ?side1 ?side2 A2.out).mono ?_); (case side1 => repeat (first | exact HR0.out | (with_reducible refine Kd.C_alloc ?_ _) | (with_reducible refine Kd.C_drewN ?_ _) | (with_reducible refine Kd.C_drew ?_))); (case side2 => exact HC0.out); rintro e w90 ⟨rfl, hb⟩; refine ⟨_, rfl, ?_⟩; have n0_ := Aside0.mk (below_step (by repeat (first | (with_reducible first | exact HB.out | apply below_alloc | apply pw_below_drewN | apply below_drew1) | exact HB.out)) hb); clear HB; have HB := n0_; clear n0_; (try clear hb); (try clear hb2); (try clear hk); (try clear hi)) | ((with_reducible refine gate_callee (f := 7) rfl ?_); refine goesL_ (some 22) rfl rfl Tryd.func7 (by kernel_rfl) rfl #[.slice A0 l0.length c0] rfl (by (try simp only [List.map_toArray, List.map_cons, List.map_nil]); first | done | rfl | (simp only [List.length_drop, List.length_take]; rfl)) ?_; (with_reducible refine (asm_Put.calls _ _ l0 t207 t208 t209 _ ?side1 ?side2 A4.out).mono ?_); (case side1 => repeat (first | exact (Kd.C_below HR0.out HB.out) | (with_reducible refine Kd.C_alloc ?_ _) | (with_reducible refine Kd.C_drewN ?_ _) | (with_reducible refine Kd.C_drew ?_))); (case side2 => exact HC0.out); rintro e w91 ⟨v210, rfl, ho0, hb⟩; refine ⟨_, rfl, ?_⟩; have n0_ := Aside0.mk (Kd.R_lower ho0 (below_size (by repeat (first | (with_reducible first | exact HB.out | apply below_alloc | apply pw_below_drewN | apply below_drew1) | exact HB.out)))); have n1_ := Aside0.mk (below_step (by repeat (first | (with_reducible first | exact HB.out | apply below_alloc | apply pw_below_drewN | apply below_drew1) | exact HB.out)) hb); clear HB; have HO211 := n0_; have HB := n1_; clear n0_ n1_; (try clear hb); (try clear hb2); (try clear hk); (try clear hi); (try clear ho0); obtain ⟨Ao92, co92, eo92⟩ := Kd.R_slice HO211.out; subst eo92) | (go_at_call 6; (with_reducible refine (curtilagelaw10_awake.calls  t212 _ (env_mono HTAB.out (by repeat (first | (with_reducible first | exact HB.out | apply below_alloc | apply pw_below_drewN | apply below_drew1) | exact HB.out))) A89.out).mono ?_); rintro e w93 ⟨rfl, hb⟩; have n0_ := Aside0.mk (Kd.R_below (by (with_reducible repeat (first | apply Kd.R_alloc | apply Kd.R_drewN | apply Kd.R_drew)); exact HO211.out) hb); have n1_ := Aside0.mk (below_step (by repeat (first | (with_reducible first | exact HB.out | apply below_alloc | apply pw_below_drewN | apply below_drew1) | exact HB.out)) hb); clear HO211; clear HB; have HO211 := n0_; have HB := n1_; clear n0_ n1_; (try clear hb); (try clear hb2); (try clear hk); (try clear hi)))
        go_ret
        exact ⟨by first | rfl | (simp [errW_none, errW_some] <;> rfl) | (simp [*, errW_none, errW_some] <;> rfl), by repeat (first | (with_reducible first | exact HB.out | apply below_alloc | apply pw_below_drewN | apply below_drew1) | exact HB.out)⟩
      · rw [if_neg c88] at H
        have c88b0 : ((t207.length : Int) == 0) = false := beq_eq_false_iff_ne.mpr c88
        have c88b1 : ((t207.length : Int) != 0) = true := bne_iff_ne.mpr c88
        have c88b2 : ¬ (t207 = []) := fun h_ => c88 (by rw [h_]; rfl)
        obtain rfl := Option.some.inj H
        go_enter Tryd.func4, Tryd.ntmps4
        go_wp2_with (first | ((with_reducible refine gate_callee (f := 5) rfl ?_); refine goesL_ (some 17) rfl rfl Tryd.func5 (by kernel_rfl) rfl #[.slice A0 l0.length c0] rfl (by (try simp only [List.map_toArray, List.map_cons, List.map_nil]); first | done | rfl | (simp only [List.length_drop, List.length_take]; rfl)) ?_; (with_reducible refine (curtilagelaw10_few.calls k _ _ l0 true _ ?side1 ?side2 A2.out).mono ?_); (case side1 => repeat (first | exact HR0.out | (with_reducible refine Kd.C_alloc ?_ _) | (with_reducible refine Kd.C_drewN ?_ _) | (with_reducible refine Kd.C_drew ?_))); (case side2 => exact HC0.out); rintro e w94 ⟨rfl, hb⟩; refine ⟨_, rfl, ?_⟩; have n0_ := Aside0.mk (below_step (by repeat (first | (with_reducible first | exact HB.out | apply below_alloc | apply pw_below_drewN | apply below_drew1) | exact HB.out)) hb); clear HB; have HB := n0_; clear n0_; (try clear hb); (try clear hb2); (try clear hk); (try clear hi)) | ((with_reducible refine gate_callee (f := 7) rfl ?_); refine goesL_ (some 22) rfl rfl Tryd.func7 (by kernel_rfl) rfl #[.slice A0 l0.length c0] rfl (by (try simp only [List.map_toArray, List.map_cons, List.map_nil]); first | done | rfl | (simp only [List.length_drop, List.length_take]; rfl)) ?_; (with_reducible refine (asm_Put.calls _ _ l0 t207 t208 t209 _ ?side1 ?side2 A4.out).mono ?_); (case side1 => repeat (first | exact (Kd.C_below HR0.out HB.out) | (with_reducible refine Kd.C_alloc ?_ _) | (with_reducible refine Kd.C_drewN ?_ _) | (with_reducible refine Kd.C_drew ?_))); (case side2 => exact HC0.out); rintro e w95 ⟨v210, rfl, ho0, hb⟩; refine ⟨_, rfl, ?_⟩; have n0_ := Aside0.mk (Kd.R_lower ho0 (below_size (by repeat (first | (with_reducible first | exact HB.out | apply below_alloc | apply pw_below_drewN | apply below_drew1) | exact HB.out)))); have n1_ := Aside0.mk (below_step (by repeat (first | (with_reducible first | exact HB.out | apply below_alloc | apply pw_below_drewN | apply below_drew1) | exact HB.out)) hb); clear HB; have HO211 := n0_; have HB := n1_; clear n0_ n1_; (try clear hb); (try clear hb2); (try clear hk); (try clear hi); (try clear ho0); obtain ⟨Ao96, co96, eo96⟩ := Kd.R_slice HO211.out; subst eo96))
        go_ret
        exact ⟨by first | rfl | (simp [errW_none, errW_some] <;> rfl) | (simp [*, errW_none, errW_some] <;> rfl), by repeat (first | (with_reducible first | exact HB.out | apply below_alloc | apply pw_below_drewN | apply below_drew1) | exact HB.out)⟩
  · replace c3 := Bool.eq_false_iff.mpr c3
    subst c3
    have H1 : ((curtilagelaw10_awake.f).bind fun t206 => (some t206)) = some r := by rw [if_neg (show ¬ (false = true) by decide)] at H; exact H
    clear H
    have H := H1
    clear H1
    replace H := Option.bind_eq_some_iff.mp H
    obtain ⟨t206, A970, H⟩ := H
    replace H : (some t206) = some r := H
    have A97 := Aside0.mk A970
    clear A970
    obtain rfl := Option.some.inj H
    go_enter Tryd.func4, Tryd.ntmps4
    go_wp2_with (first | ((with_reducible refine gate_callee (f := 5) rfl ?_); refine goesL_ (some 17) rfl rfl Tryd.func5 (by kernel_rfl) rfl #[.slice A0 l0.length c0] rfl (by (try simp only [List.map_toArray, List.map_cons, List.map_nil]); first | done | rfl | (simp only [List.length_drop, List.length_take]; rfl)) ?_; (with_reducible refine (curtilagelaw10_few.calls k _ _ l0 false _ ?side1 ?side2 A2.out).mono ?_); (case side1 => repeat (first | exact HR0.out | (with_reducible refine Kd.C_alloc ?_ _) | (with_reducible refine Kd.C_drewN ?_ _) | (with_reducible refine Kd.C_drew ?_))); (case side2 => exact HC0.out); rintro e w98 ⟨rfl, hb⟩; refine ⟨_, rfl, ?_⟩; have n0_ := Aside0.mk (below_step (by repeat (first | (with_reducible first | exact HB.out | apply below_alloc | apply pw_below_drewN | apply below_drew1) | exact HB.out)) hb); clear HB; have HB := n0_; clear n0_; (try clear hb); (try clear hb2); (try clear hk); (try clear hi)) | ((with_reducible refine gate_callee (f := 6) rfl ?_); refine goesL_ (some 19) rfl rfl Tryd.func6 (by kernel_rfl) rfl #[] rfl (by (try simp only [List.map_toArray, List.map_cons, List.map_nil]); first | done | rfl | (simp only [List.length_drop, List.length_take]; rfl)) ?_; (with_reducible refine (curtilagelaw10_awake.calls  t206 _ (env_mono HTAB.out (by repeat (first | (with_reducible first | exact HB.out | apply below_alloc | apply pw_below_drewN | apply below_drew1) | exact HB.out))) A97.out).mono ?_); rintro e w99 ⟨rfl, hb⟩; refine ⟨_, rfl, ?_⟩; have n0_ := Aside0.mk (below_step (by repeat (first | (with_reducible first | exact HB.out | apply below_alloc | apply pw_below_drewN | apply below_drew1) | exact HB.out)) hb); clear HB; have HB := n0_; clear n0_; (try clear hb); (try clear hb2); (try clear hk); (try clear hi)))
    go_ret
    exact ⟨by first | rfl | (simp [errW_none, errW_some] <;> rfl) | (simp [*, errW_none, errW_some] <;> rfl), by repeat (first | (with_reducible first | exact HB.out | apply below_alloc | apply pw_below_drewN | apply below_drew1) | exact HB.out)⟩

end Go.Proofs.YtbelnkdbghggmaaDoor.X
