/- Texts of this claim that stand one behind another, merged. -/
import Derived.Test.YtbelnkdbghggmaaGreatDoorXx0
import Derived.Test.YtbelnkdbghggmaaGreatDoorMr10
import Derived.Test.YtbelnkdbghggmaaGreatDoorMr7
import Derived.Test.YtbelnkdbghggmaaGreatDoorXx10
import Derived.Test.YtbelnkdbghggmaaGreatDoorMr5
namespace Go.Proofs.YtbelnkdbghggmaaGreatDoor.X
open Go.RowKit Go.Proofs.YtbelnkdbghggmaaGreatDoorW.PrintWords Go.Proofs.YtbelnkdbghggmaaGreatDoorW.PrintLast

set_option linter.unusedVariables false
set_option linter.unusedSimpArgs false

attribute [local go_sem high] eqA40
/-! ### curtilageref10_Read: function 7 -/
mutual
def curtilageref10_Read.l0 : Nat → ByteArray → List (S40) → Int → Int → Int → Option ((List (S40)) × Int × Int)
  | 0, _, _, _, _, _ => none
  | k + 1, x0, x5, x6, x7, x8 => if x8 ≤ (x0.size : Int) then (if x8 < (x0.size : Int) then (if 0 ≤ x8 then (if (bt x0 x8) = 10 then (if x8 = (x0.size : Int) then (curtilageref10_Read.j1 k x0 x5 x6 x7 x8 (x8 == x7)) else (curtilageref10_Read.j1 k x0 x5 x6 x7 x8 false)) else (curtilageref10_Read.j1 k x0 x5 x6 x7 x8 true)) else (none)) else (if x8 = (x0.size : Int) then (curtilageref10_Read.j1 k x0 x5 x6 x7 x8 (x8 == x7)) else (curtilageref10_Read.j1 k x0 x5 x6 x7 x8 false))) else (some (x5, 0, 0))
def curtilageref10_Read.j1 : Nat → ByteArray → List (S40) → Int → Int → Int → Bool → Option ((List (S40)) × Int × Int)
  | 0, _, _, _, _, _, _ => none
  | k + 1, x0, x5, x6, x7, x8, x38 => if x38 = true then (curtilageref10_Read.l0 k x0 x5 x6 x7 (wrap64 (x8 + 1))) else (if 0 ≤ x7 then (if x7 ≤ x8 then (if x8 ≤ (x0.size : Int) then (if (x0.extract (x7 : Int).toNat (x8 : Int).toNat).toList = ([] : List UInt8) then (curtilageref10_Read.l0 k x0 x5 (wrap64 (x6 + 1)) (wrap64 (x8 + 1)) (wrap64 (x8 + 1))) else ((curtilageref10_read.f k (x0.extract (x7 : Int).toNat (x8 : Int).toNat)).bind fun bt214 => (if bt214.2.2.2.2.2.2.2 = true then (if x5.length < 1954687338268 then (curtilageref10_Read.l0 k x0 (x5 ++ [(⟨bt214.1, (⟨bt214.2.1, bt214.2.2.1, bt214.2.2.2.1, bt214.2.2.2.2.1, bt214.2.2.2.2.2.1⟩ : S38), bt214.2.2.2.2.2.2.1⟩ : S40)]) (wrap64 (x6 + 1)) (wrap64 (x8 + 1)) (wrap64 (x8 + 1))) else (none)) else (some (([] : List (S40)), x6, 11))))) else (none)) else (none)) else (none))
end
def curtilageref10_Read.f (k : Nat) (a0 : ByteArray) : Option ((List (S40)) × Int × Int) := curtilageref10_Read.l0 k a0 ([] : List (S40)) 0 0 0
set_option maxHeartbeats 8000000 in
set_option maxRecDepth 100000 in
theorem curtilageref10_Read.calls (k : Nat) (a0 : ByteArray) (r1 : List (S40)) (r2 : Int) (r3 : Int) (w : World) (h : curtilageref10_Read.f k a0 = some (r1, r2, r3)) :
    Calls Tryz.prog 7 #[.string a0] w fun e w' => ∃ v0_ : Value, e = .returned (.tuple #[v0_, .int .i64 r2, .int .i64 r3]) ∧ Kd.R k40 40 w' w.heap.size (fun _ => True) v0_ r1 ∧ Below w.heap.size w w' := by
  have hu40 := Tryz.underlying40
  have HB := Q4 (Below.refl w.heap.size w)
  have H : (curtilageref10_Read.l0 k a0 ([] : List (S40)) 0 0 0) = some (r1, r2, r3) := h
  clear h
  have H' := Q4 H
  clear H
  go_enter Tryz.func7, Tryz.ntmps7
  go_wp2
  go_loopg [5, 6, 7, 8] k (fun kq v5 v6 v7 v8 w' => ∃ (x5_1 : List (S40)) (x6_1 : Int) (x7_1 : Int) (x8_1 : Int), v6 = .int .i64 x6_1 ∧ v7 = .int .i64 x7_1 ∧ v8 = .int .i64 x8_1 ∧ Aside0 (curtilageref10_Read.l0 kq a0 x5_1 x6_1 x7_1 x8_1 = some (r1, r2, r3)) ∧ Aside0 (kq ≤ k) ∧ Aside0 (Kd.R k40 40 w' w.heap.size (fun _ => True) v5 x5_1) ∧ Aside0 (Below w.heap.size w w'))
  case atStart => exact ⟨(([] : List (S40))), (0), (0), (0), (by first|rfl|(simp; done)|(simp [*]; done)), (by first|rfl|(simp; done)|(simp [*]; done)), (by first|rfl|(simp; done)|(simp [*]; done)), H', ⟨Nat.le_refl _⟩, ⟨by first|exact Kd.R_nil _ _ _ _ _|exact Kd.N_nil _ _ _ _ _|exact Kd.V_nil _ _ _ _ _|exact Kd.Q_nil _ _ _ _ _|exact Kd.S_nil _ _ _ _ _⟩, ⟨by repeat (first|(with_reducible first|exact HB.out|apply Q8|apply Q5|apply Q9)|exact HB.out)⟩⟩
  case round =>
    clear H'
    obtain ⟨x5_1, x6_1, x7_1, x8_1, rfl, rfl, rfl, HA, HK1, HO_5, HB⟩ := hrel
    cases gk with
    | zero => exact absurd HA.out (by simp [curtilageref10_Read.l0])
    | succ k1 =>
      have H := HA.out
      clear HA
      simp only [curtilageref10_Read.l0] at H
      by_cases c2 : x8_1 ≤ (a0.size : Int)
      · rw [if_pos c2] at H
        have c2b0 : decide (x8_1 ≤ (a0.size : Int)) = true := Qj c2
        clear c2
        have HC3 := Q4 H
        clear H
        go_upto_region 7 with (fail)
        go_cut [38] (fun v38 wc => ∃ (kq : Nat) (x38_2 : Bool), v38 = .bool x38_2 ∧ Aside0 (curtilageref10_Read.j1 kq a0 x5_1 x6_1 x7_1 x8_1 x38_2 = some (r1, r2, r3)) ∧ Aside0 (kq ≤ k1) ∧ Aside0 (Kd.R k40 40 wc w.heap.size (fun _ => True) u5 x5_1) ∧ Aside0 (Below w.heap.size w wc))
        case first =>
          have H := HC3.out
          clear HC3
          by_cases c4 : x8_1 < (a0.size : Int)
          · rw [if_pos c4] at H
            have c4b0 : decide (x8_1 < (a0.size : Int)) = true := Qj c4
            clear c4
            (first | rw [c4b0]|(simp only [i64_w, i32_w]; rw [c4b0])|skip)
            by_cases c5 : 0 ≤ x8_1
            · rw [if_pos c5] at H
              have c5b0 : decide (0 ≤ x8_1) = true := Qj c5
              clear c5
              by_cases c7 : (bt a0 x8_1) = 10
              · rw [if_pos c7] at H
                have c7b0 : ((bt a0 x8_1) == 10) = true := Qm c7
                have c7b1 : ((bt a0 x8_1) != 10) = false := Qh c7
                clear c7
                by_cases c8 : x8_1 = (a0.size : Int)
                · rw [if_pos c8] at H
                  have c8b0 : (x8_1 == (a0.size : Int)) = true := Qm c8
                  have c8b1 : (x8_1 != (a0.size : Int)) = false := Qh c8
                  clear c8
                  have H' := Q4 H
                  clear H
                  have p6 : 0 ≤ (x8_1 : Int) := Qc (by first|(with_reducible assumption)|assumption)
                  have q6 : x8_1 < (a0.size : Int) := Qc (by first|(with_reducible assumption)|assumption)
                  have hx6 := bt_at a0 x8_1
                  replace p6 := eq_true p6
                  replace q6 := eq_true q6
                  go_wp2
                  go_meet
                  case rel => exact ⟨_, ((x8_1 == x7_1)), (by first|rfl|(simp; done)|(simp [*]; done)), H', ⟨by have := HK1.out; first|omega|exact Nat.le_refl _⟩, ⟨by (with_reducible repeat (first|apply Kd.R_alloc|apply Kd.R_drewN|apply Kd.R_drew)); exact HO_5.out⟩, ⟨by repeat (first|(with_reducible first|exact HB.out|apply Q8|apply Q5|apply Q9)|exact HB.out)⟩⟩
                · rw [if_neg c8] at H
                  have c8b0 : (x8_1 == (a0.size : Int)) = false := Qk c8
                  have c8b1 : (x8_1 != (a0.size : Int)) = true := Ql c8
                  have H' := Q4 H
                  clear H
                  have p6 : 0 ≤ (x8_1 : Int) := Qc (by first|(with_reducible assumption)|assumption)
                  have q6 : x8_1 < (a0.size : Int) := Qc (by first|(with_reducible assumption)|assumption)
                  have hx6 := bt_at a0 x8_1
                  replace p6 := eq_true p6
                  replace q6 := eq_true q6
                  go_wp2
                  go_meet
                  case rel => exact ⟨_, (false), (by first|rfl|(simp; done)|(simp [*]; done)), H', ⟨by have := HK1.out; first|omega|exact Nat.le_refl _⟩, ⟨by (with_reducible repeat (first|apply Kd.R_alloc|apply Kd.R_drewN|apply Kd.R_drew)); exact HO_5.out⟩, ⟨by repeat (first|(with_reducible first|exact HB.out|apply Q8|apply Q5|apply Q9)|exact HB.out)⟩⟩
              · rw [if_neg c7] at H
                have c7b0 : ((bt a0 x8_1) == 10) = false := Qk c7
                have c7b1 : ((bt a0 x8_1) != 10) = true := Ql c7
                have H' := Q4 H
                clear H
                have p6 : 0 ≤ (x8_1 : Int) := Qc (by first|(with_reducible assumption)|assumption)
                have q6 : x8_1 < (a0.size : Int) := Qc (by first|(with_reducible assumption)|assumption)
                have hx6 := bt_at a0 x8_1
                replace p6 := eq_true p6
                replace q6 := eq_true q6
                go_wp2
                go_meet
                case rel => exact ⟨_, (true), (by first|rfl|(simp; done)|(simp [*]; done)), H', ⟨by have := HK1.out; first|omega|exact Nat.le_refl _⟩, ⟨by (with_reducible repeat (first|apply Kd.R_alloc|apply Kd.R_drewN|apply Kd.R_drew)); exact HO_5.out⟩, ⟨by repeat (first|(with_reducible first|exact HB.out|apply Q8|apply Q5|apply Q9)|exact HB.out)⟩⟩
            · rw [if_neg c5] at H
              exact absurd H (by simp)
          · rw [if_neg c4] at H
            have c4b0 : decide (x8_1 < (a0.size : Int)) = false := decide_eq_false c4
            clear c4
            (first | rw [c4b0]|(simp only [i64_w, i32_w]; rw [c4b0])|skip)
            by_cases c9 : x8_1 = (a0.size : Int)
            · rw [if_pos c9] at H
              have c9b0 : (x8_1 == (a0.size : Int)) = true := Qm c9
              have c9b1 : (x8_1 != (a0.size : Int)) = false := Qh c9
              clear c9
              have H' := Q4 H
              clear H
              go_wp2
              go_meet
              case rel => exact ⟨_, ((x8_1 == x7_1)), (by first|rfl|(simp; done)|(simp [*]; done)), H', ⟨by have := HK1.out; first|omega|exact Nat.le_refl _⟩, ⟨by (with_reducible repeat (first|apply Kd.R_alloc|apply Kd.R_drewN|apply Kd.R_drew)); exact HO_5.out⟩, ⟨by repeat (first|(with_reducible first|exact HB.out|apply Q8|apply Q5|apply Q9)|exact HB.out)⟩⟩
            · rw [if_neg c9] at H
              have c9b0 : (x8_1 == (a0.size : Int)) = false := Qk c9
              have c9b1 : (x8_1 != (a0.size : Int)) = true := Ql c9
              have H' := Q4 H
              clear H
              go_wp2
              go_meet
              case rel => exact ⟨_, (false), (by first|rfl|(simp; done)|(simp [*]; done)), H', ⟨by have := HK1.out; first|omega|exact Nat.le_refl _⟩, ⟨by (with_reducible repeat (first|apply Kd.R_alloc|apply Kd.R_drewN|apply Kd.R_drew)); exact HO_5.out⟩, ⟨by repeat (first|(with_reducible first|exact HB.out|apply Q8|apply Q5|apply Q9)|exact HB.out)⟩⟩
        case rest =>
          clear HC3
          try clear c2
          try clear c2b0
          try clear p2
          try clear c4
          try clear c4b0
          try clear c5
          try clear c5b0
          try clear p6
          try clear q6
          try clear hx6
          try clear c7
          try clear c7b0
          try clear c7b1
          try clear c8
          try clear c8b0
          try clear c8b1
          try clear c9
          try clear c9b0
          try clear c9b1
          try clear p6
          try clear q6
          obtain ⟨kq, x38_2, rfl, HA, HJ2, HO_5, HB⟩ := hcut
          cases kq with
          | zero => exact absurd HA.out (by simp [curtilageref10_Read.j1])
          | succ kj2 =>
            have H := HA.out
            clear HA
            simp only [curtilageref10_Read.j1] at H
            by_cases c10 : x38_2 = true
            · subst c10
              rw [if_pos rfl] at H
              have H' := Q4 H
              clear H
              go_wp2
              go_roundg kj2
              case measure => have := HK1.out; have := HJ2.out; omega
              case rel => exact ⟨(x5_1), (x6_1), (x7_1), (wrap64 (x8_1 + 1)), (by first|rfl|(simp; done)|(simp [*]; done)), (by first|rfl|(simp; done)|(simp [*]; done)), (by first|rfl|(simp; done)|(simp [*]; done)), H', ⟨by have := HK1.out; have := HJ2.out; omega⟩, ⟨by (with_reducible repeat (first|apply Kd.R_alloc|apply Kd.R_drewN|apply Kd.R_drew)); exact HO_5.out⟩, ⟨by repeat (first|(with_reducible first|exact HB.out|apply Q8|apply Q5|apply Q9)|exact HB.out)⟩⟩
            · replace c10 := Bool.eq_false_iff.mpr c10
              subst c10
              rw [if_neg (show ¬ (false = true) by decide)] at H
              by_cases c11 : 0 ≤ x7_1
              · rw [if_pos c11] at H
                have c11b0 := eq_true c11
                have c11b1 : decide (0 ≤ x7_1) = true := Qj c11
                clear c11
                by_cases c12 : x7_1 ≤ x8_1
                · rw [if_pos c12] at H
                  have c12b0 := eq_true c12
                  have c12b1 : decide (x7_1 ≤ x8_1) = true := Qj c12
                  clear c12
                  by_cases c13 : x8_1 ≤ (a0.size : Int)
                  · rw [if_pos c13] at H
                    have c13b0 := eq_true c13
                    have c13b1 : decide (x8_1 ≤ (a0.size : Int)) = true := Qj c13
                    clear c13
                    by_cases c14 : (a0.extract (x7_1 : Int).toNat (x8_1 : Int).toNat).toList = ([] : List UInt8)
                    · rw [if_pos c14] at H
                      have c14b0 : ((a0.extract (x7_1 : Int).toNat (x8_1 : Int).toNat).toList == ([] : List UInt8)) = true := Qm c14
                      have c14b1 : ((a0.extract (x7_1 : Int).toNat (x8_1 : Int).toNat).toList != ([] : List UInt8)) = false := Qh c14
                      clear c14
                      have H' := Q4 H
                      clear H
                      go_wp2
                      go_roundg kj2
                      case measure => have := HK1.out; have := HJ2.out; omega
                      case rel => exact ⟨(x5_1), (wrap64 (x6_1 + 1)), (wrap64 (x8_1 + 1)), (wrap64 (x8_1 + 1)), (by first|rfl|(simp; done)|(simp [*]; done)), (by first|rfl|(simp; done)|(simp [*]; done)), (by first|rfl|(simp; done)|(simp [*]; done)), H', ⟨by have := HK1.out; have := HJ2.out; omega⟩, ⟨by (with_reducible repeat (first|apply Kd.R_alloc|apply Kd.R_drewN|apply Kd.R_drew)); exact HO_5.out⟩, ⟨by repeat (first|(with_reducible first|exact HB.out|apply Q8|apply Q5|apply Q9)|exact HB.out)⟩⟩
                    · rw [if_neg c14] at H
                      have c14b0 : ((a0.extract (x7_1 : Int).toNat (x8_1 : Int).toNat).toList == ([] : List UInt8)) = false := Qk c14
                      have c14b1 : ((a0.extract (x7_1 : Int).toNat (x8_1 : Int).toNat).toList != ([] : List UInt8)) = true := Ql c14
                      replace H := Qi H
                      obtain ⟨⟨t214, t215, t216, t217, t218, t219, t220, t221⟩, A150, H⟩ := H
                      try dsimp only at H
                      have A15 := Q4 A150
                      clear A150
                      by_cases c16 : t221 = true
                      · subst c16
                        rw [if_pos rfl] at H
                        by_cases c17 : x5_1.length < 1954687338268
                        · rw [if_pos c17] at H
                          have LMc17 := Q4 c17
                          clear c17
                          obtain ⟨y223, hy223⟩ : ∃ y_ : List (S40), y_ = (x5_1 ++ [(⟨t214, (⟨t215, t216, t217, t218, t219⟩ : S38), t220⟩ : S40)]) := ⟨_, rfl⟩
                          replace H : (curtilageref10_Read.l0 kj2 a0 y223 (wrap64 (x6_1 + 1)) (wrap64 (x8_1 + 1)) (wrap64 (x8_1 + 1))) = some (r1, r2, r3) := by first|(rw [hy223]; with_reducible exact H)|(have H2_ := (Option.bind_some _ _).symm.trans H; rw [hy223]; with_reducible exact H2_)|(have H2_ := (Option.bind_some _ _).symm.trans H; with_reducible exact H2_) | with_reducible exact H|(rw [hy223]; exact H)|exact H
                          have Ny223 := Q4 hy223
                          clear hy223
                          have H' := Q4 H
                          clear H
                          go_wp2_with (first|((with_reducible refine gate_callee (f := 16) rfl ?_); refine gL (some 49) Tryz.func16 #[.string (a0.extract (x7_1 : Int).toNat (x8_1 : Int).toNat)] ?_; (with_reducible refine (curtilageref10_read.calls kj2 (a0.extract (x7_1 : Int).toNat (x8_1 : Int).toNat) t214 t215 t216 t217 t218 t219 t220 true _ A15.out).mono ?_); rintro e w18 ⟨rfl, hb⟩; refine ⟨_, rfl, ?_⟩; have n0_ := Q4 (Kd.R_below (rK HO_5) hb); have n1_ := Q4 (Qg (by repeat (first|(with_reducible first|exact HB.out|apply Q8|apply Q5|apply Q9)|exact HB.out)) hb); clear HO_5; clear HB; have HO_5 := n0_; have HB := n1_; clear n0_ n1_;(try clear hb);(try clear hb2);(try clear hk);(try clear hi))|((with_reducible refine gate_dst (N := 10) rfl ?_); (try (refine gate_guard (by rfl) ?_; dsimp only)); refine box_event ?hg (N := 10) ?hd (cs := #[.string (⟨#[]⟩ : ByteArray), .int .i64 0, .int .i64 0, .int .i64 0, .int .i64 0, .int .i32 0, .string (⟨#[]⟩ : ByteArray)]) (t := 40) ?hr ?_; (case hd => rfl); (case hg => rfl); (case hr => first|(go_simp; done)|(go_simp; rfl)); intro gb222 hg w19 hbox hb; have n0_ := Q4 (Kd.R_below (Kd.R_elderB (rK HO_5) gb222 (Nat.le_of_eq hg.symm)) hb); have n1_ := Q4 (Qg (by repeat (first|(with_reducible first|exact HB.out|apply Q8|apply Q5|apply Q9)|exact HB.out)) hb); have n2_ := Q4 (hbox); have n3_ := Q4 ((by rw [hg]; exact bZ : w.heap.size ≤ gb222)); have n4_ := Q4 ((by rw [hg]; exact bZ : w.heap.size ≤ gb222)); clear HO_5; clear HB; have HO_5 := n0_; have HB := n1_; have BK222 := n2_; have GW222 := n3_; have GE222 := n4_; clear n0_ n1_ n2_ n3_ n4_; clear hb hbox hg; have hcz20_0 : w19.cell? ⟨gb222, 0, none⟩ = some (.string (⟨#[]⟩ : ByteArray)) := (Qe BK222.out 0).trans rfl; have hcz20_1 : w19.cell? ⟨gb222, 1, none⟩ = some (.int .i64 0) := (Qe BK222.out 1).trans rfl; have hcz20_2 : w19.cell? ⟨gb222, 2, none⟩ = some (.int .i64 0) := (Qe BK222.out 2).trans rfl; have hcz20_3 : w19.cell? ⟨gb222, 3, none⟩ = some (.int .i64 0) := (Qe BK222.out 3).trans rfl; have hcz20_4 : w19.cell? ⟨gb222, 4, none⟩ = some (.int .i64 0) := (Qe BK222.out 4).trans rfl; have hcz20_5 : w19.cell? ⟨gb222, 5, none⟩ = some (.int .i32 0) := (Qe BK222.out 5).trans rfl; have hcz20_6 : w19.cell? ⟨gb222, 6, none⟩ = some (.string (⟨#[]⟩ : ByteArray)) := (Qe BK222.out 6).trans rfl; have hfz20_0 := Qd BK222.out 0; have hfz20_1 := Qd BK222.out 1; have hfz20_2 := Qd BK222.out 2; have hfz20_3 := Qd BK222.out 3; have hfz20_4 := Qd BK222.out 4; have hfz20_5 := Qd BK222.out 5; have hfz20_6 := Qd BK222.out 6)|((with_reducible refine gate_builtin (b := .append) (xs := #[.tmp 55, .tmp 57]) rfl ?_); (try (refine gate_guard (by rfl) ?_; dsimp only)); at_builtin; refine Kd.R_append k40 (w0 := w) w.heap.size rfl (.tmp 55) (.tmp 57) 23 40 (.agg #[(.string ⟨#[]⟩), (.int .i64 0), (.int .i64 0), (.int .i64 0), (.int .i64 0), (.int .i32 0), (.string ⟨#[]⟩)]) 72 rfl Tryz.underlying23 info40 rfl (by decide) (by omega) u5 x5_1 (⟨t214, (⟨t215, t216, t217, t218, t219⟩ : S38), t220⟩ : S40) [.string t214, .int .i64 t215, .int .i64 t216, .int .i64 t217, .int .i64 t218, .int .i32 t219, .string t220] (fun k_ => k_ ≠ gb222) (fun _ => False) rfl (by first|(go_simp; done)|(go_simp; rfl)) ?aP (fun _ hk => hk.elim) ?aF ?aO ?aB ?aS ?aL ?_; (case aP => exact k40_mkM _ _ _ (⟨t214, (⟨t215, t216, t217, t218, t219⟩ : S38), t220⟩ : S40)); (case aB => exact (by repeat (first|(with_reducible first|exact HB.out|apply Q8|apply Q5|apply Q9|refine Q6 ?_ GE222.out)|exact HB.out))); (case aF => exact (fun k_ hk => Kd.freshB (g := gb222) (o := .cells #[.string t214, .int .i64 t215, .int .i64 t216, .int .i64 t217, .int .i64 t218, .int .i32 t219, .string t220] 40 (0, 0)) (by (with_reducible repeat (first|refine Qa ?_ _|refine Qb ?_|refine Q7 ?_ _)); refine blk_put (cs := #[.string t214, .int .i64 t215, .int .i64 t216, .int .i64 t217, .int .i64 t218, .int .i32 t219, .string (⟨#[]⟩ : ByteArray)]) ?_ 6 _ rfl; (with_reducible repeat (first|refine Qa ?_ _|refine Qb ?_|refine Q7 ?_ _)); refine blk_put (cs := #[.string t214, .int .i64 t215, .int .i64 t216, .int .i64 t217, .int .i64 t218, .int .i32 0, .string (⟨#[]⟩ : ByteArray)]) ?_ 5 _ rfl; (with_reducible repeat (first|refine Qa ?_ _|refine Qb ?_|refine Q7 ?_ _)); refine blk_put (cs := #[.string t214, .int .i64 t215, .int .i64 t216, .int .i64 t217, .int .i64 0, .int .i32 0, .string (⟨#[]⟩ : ByteArray)]) ?_ 4 _ rfl; (with_reducible repeat (first|refine Qa ?_ _|refine Qb ?_|refine Q7 ?_ _)); refine blk_put (cs := #[.string t214, .int .i64 t215, .int .i64 t216, .int .i64 0, .int .i64 0, .int .i32 0, .string (⟨#[]⟩ : ByteArray)]) ?_ 3 _ rfl; (with_reducible repeat (first|refine Qa ?_ _|refine Qb ?_|refine Q7 ?_ _)); refine blk_put (cs := #[.string t214, .int .i64 t215, .int .i64 0, .int .i64 0, .int .i64 0, .int .i32 0, .string (⟨#[]⟩ : ByteArray)]) ?_ 2 _ rfl; (with_reducible repeat (first|refine Qa ?_ _|refine Qb ?_|refine Q7 ?_ _)); refine blk_put (cs := #[.string t214, .int .i64 0, .int .i64 0, .int .i64 0, .int .i64 0, .int .i32 0, .string (⟨#[]⟩ : ByteArray)]) ?_ 1 _ rfl; (with_reducible repeat (first|refine Qa ?_ _|refine Qb ?_|refine Q7 ?_ _)); refine blk_put (cs := #[.string (⟨#[]⟩ : ByteArray), .int .i64 0, .int .i64 0, .int .i64 0, .int .i64 0, .int .i32 0, .string (⟨#[]⟩ : ByteArray)]) ?_ 0 _ rfl; (with_reducible repeat (first|refine Qa ?_ _|refine Qb ?_|refine Q7 ?_ _)); exact BK222.out) k_ hk)); (case aO => exact (by (with_reducible repeat (first|apply Kd.R_alloc|apply Kd.R_drewN|apply Kd.R_drew)); exact Kd.R_mono (Kd.R_far (p := ⟨gb222, 6, none⟩) (Kd.R_far (p := ⟨gb222, 5, none⟩) (Kd.R_far (p := ⟨gb222, 4, none⟩) (Kd.R_far (p := ⟨gb222, 3, none⟩) (Kd.R_far (p := ⟨gb222, 2, none⟩) (Kd.R_far (p := ⟨gb222, 1, none⟩) (Kd.R_far (p := ⟨gb222, 0, none⟩) (Kd.R_mono HO_5.out (fun k_ hk => (⟨hk, hk.2⟩ : _ ∧ k_ ≠ gb222))) (fun _ hk => hk.2) (.string t214)) (fun _ hk => hk.2) (.int .i64 t215)) (fun _ hk => hk.2) (.int .i64 t216)) (fun _ hk => hk.2) (.int .i64 t217)) (fun _ hk => hk.2) (.int .i64 t218)) (fun _ hk => hk.2) (.int .i32 t219)) (fun _ hk => hk.2) (.string t220)) (fun _ hk => hk.1.2))); (case aS => exact (below_size (by repeat (first|(with_reducible first|exact HB.out|apply Q8|apply Q5|apply Q9|refine Q6 ?_ GE222.out)|exact HB.out)))); (case aL => have := LMc17.out; omega); intro v224 w21 ho hb hg hat; rw [← Ny223.out] at ho; have n0_ := Q4 (blk_grown (g := gb222) (o := .cells #[.string t214, .int .i64 t215, .int .i64 t216, .int .i64 t217, .int .i64 t218, .int .i32 t219, .string t220] 40 (0, 0)) (by (with_reducible repeat (first|refine Qa ?_ _|refine Qb ?_|refine Q7 ?_ _)); refine blk_put (cs := #[.string t214, .int .i64 t215, .int .i64 t216, .int .i64 t217, .int .i64 t218, .int .i32 t219, .string (⟨#[]⟩ : ByteArray)]) ?_ 6 _ rfl; (with_reducible repeat (first|refine Qa ?_ _|refine Qb ?_|refine Q7 ?_ _)); refine blk_put (cs := #[.string t214, .int .i64 t215, .int .i64 t216, .int .i64 t217, .int .i64 t218, .int .i32 0, .string (⟨#[]⟩ : ByteArray)]) ?_ 5 _ rfl; (with_reducible repeat (first|refine Qa ?_ _|refine Qb ?_|refine Q7 ?_ _)); refine blk_put (cs := #[.string t214, .int .i64 t215, .int .i64 t216, .int .i64 t217, .int .i64 0, .int .i32 0, .string (⟨#[]⟩ : ByteArray)]) ?_ 4 _ rfl; (with_reducible repeat (first|refine Qa ?_ _|refine Qb ?_|refine Q7 ?_ _)); refine blk_put (cs := #[.string t214, .int .i64 t215, .int .i64 t216, .int .i64 0, .int .i64 0, .int .i32 0, .string (⟨#[]⟩ : ByteArray)]) ?_ 3 _ rfl; (with_reducible repeat (first|refine Qa ?_ _|refine Qb ?_|refine Q7 ?_ _)); refine blk_put (cs := #[.string t214, .int .i64 t215, .int .i64 0, .int .i64 0, .int .i64 0, .int .i32 0, .string (⟨#[]⟩ : ByteArray)]) ?_ 2 _ rfl; (with_reducible repeat (first|refine Qa ?_ _|refine Qb ?_|refine Q7 ?_ _)); refine blk_put (cs := #[.string t214, .int .i64 0, .int .i64 0, .int .i64 0, .int .i64 0, .int .i32 0, .string (⟨#[]⟩ : ByteArray)]) ?_ 1 _ rfl; (with_reducible repeat (first|refine Qa ?_ _|refine Qb ?_|refine Q7 ?_ _)); refine blk_put (cs := #[.string (⟨#[]⟩ : ByteArray), .int .i64 0, .int .i64 0, .int .i64 0, .int .i64 0, .int .i32 0, .string (⟨#[]⟩ : ByteArray)]) ?_ 0 _ rfl; (with_reducible repeat (first|refine Qa ?_ _|refine Qb ?_|refine Q7 ?_ _)); exact BK222.out) hg (Kd.R_away HO_5.out (fun _ hk => hk.2))); have n1_ := Q4 (hb); have n2_ := Q4 (ho); clear BK222; clear HB; clear HO_5; have BK222 := n0_; have HB := n1_; have HO225 := n2_; clear n0_ n1_ n2_; clear ho hb hg hat))
                          go_roundg kj2
                          case measure => have := HK1.out; have := HJ2.out; omega
                          case rel => exact ⟨(y223), (wrap64 (x6_1 + 1)), (wrap64 (x8_1 + 1)), (wrap64 (x8_1 + 1)), (by first|rfl|(simp; done)|(simp [*]; done)), (by first|rfl|(simp; done)|(simp [*]; done)), (by first|rfl|(simp; done)|(simp [*]; done)), H', ⟨by have := HK1.out; have := HJ2.out; omega⟩, ⟨by (with_reducible repeat (first|apply Kd.R_alloc|apply Kd.R_drewN|apply Kd.R_drew)); exact Kd.R_mono HO225.out (fun _ hk => trivial)⟩, ⟨by repeat (first|(with_reducible first|exact HB.out|apply Q8|apply Q5|apply Q9|refine Q6 ?_ GE222.out)|exact HB.out)⟩⟩
                        · rw [if_neg c17] at H
                          exact absurd H (by simp)
                      · replace c16 := Bool.eq_false_iff.mpr c16
                        subst c16
                        rw [if_neg (show ¬ (false = true) by decide)] at H
                        simp only [Option.some.injEq, Prod.mk.injEq] at H
                        obtain ⟨rfl, rfl, rfl⟩ := H
                        go_wp2_with (first|((with_reducible refine gate_callee (f := 16) rfl ?_); refine gL (some 49) Tryz.func16 #[.string (a0.extract (x7_1 : Int).toNat (x8_1 : Int).toNat)] ?_; (with_reducible refine (curtilageref10_read.calls kj2 (a0.extract (x7_1 : Int).toNat (x8_1 : Int).toNat) t214 t215 t216 t217 t218 t219 t220 false _ A15.out).mono ?_); rintro e w22 ⟨rfl, hb⟩; refine ⟨_, rfl, ?_⟩; have n0_ := Q4 (Kd.R_below (rK HO_5) hb); have n1_ := Q4 (Qg (by repeat (first|(with_reducible first|exact HB.out|apply Q8|apply Q5|apply Q9)|exact HB.out)) hb); clear HO_5; clear HB; have HO_5 := n0_; have HB := n1_; clear n0_ n1_;(try clear hb);(try clear hb2);(try clear hk);(try clear hi))|((with_reducible refine gate_dst (N := 10) rfl ?_); (try (refine gate_guard (by rfl) ?_; dsimp only)); refine box_event ?hg (N := 10) ?hd (cs := #[.string (⟨#[]⟩ : ByteArray), .int .i64 0, .int .i64 0, .int .i64 0, .int .i64 0, .int .i32 0, .string (⟨#[]⟩ : ByteArray)]) (t := 40) ?hr ?_; (case hd => rfl); (case hg => rfl); (case hr => first|(go_simp; done)|(go_simp; rfl)); intro gb222 hg w23 hbox hb; have n0_ := Q4 (Kd.R_below (Kd.R_elderB (rK HO_5) gb222 (Nat.le_of_eq hg.symm)) hb); have n1_ := Q4 (Qg (by repeat (first|(with_reducible first|exact HB.out|apply Q8|apply Q5|apply Q9)|exact HB.out)) hb); have n2_ := Q4 (hbox); have n3_ := Q4 ((by rw [hg]; exact bZ : w.heap.size ≤ gb222)); have n4_ := Q4 ((by rw [hg]; exact bZ : w.heap.size ≤ gb222)); clear HO_5; clear HB; have HO_5 := n0_; have HB := n1_; have BK222 := n2_; have GW222 := n3_; have GE222 := n4_; clear n0_ n1_ n2_ n3_ n4_; clear hb hbox hg; have hcz24_0 : w23.cell? ⟨gb222, 0, none⟩ = some (.string (⟨#[]⟩ : ByteArray)) := (Qe BK222.out 0).trans rfl; have hcz24_1 : w23.cell? ⟨gb222, 1, none⟩ = some (.int .i64 0) := (Qe BK222.out 1).trans rfl; have hcz24_2 : w23.cell? ⟨gb222, 2, none⟩ = some (.int .i64 0) := (Qe BK222.out 2).trans rfl; have hcz24_3 : w23.cell? ⟨gb222, 3, none⟩ = some (.int .i64 0) := (Qe BK222.out 3).trans rfl; have hcz24_4 : w23.cell? ⟨gb222, 4, none⟩ = some (.int .i64 0) := (Qe BK222.out 4).trans rfl; have hcz24_5 : w23.cell? ⟨gb222, 5, none⟩ = some (.int .i32 0) := (Qe BK222.out 5).trans rfl; have hcz24_6 : w23.cell? ⟨gb222, 6, none⟩ = some (.string (⟨#[]⟩ : ByteArray)) := (Qe BK222.out 6).trans rfl; have hfz24_0 := Qd BK222.out 0; have hfz24_1 := Qd BK222.out 1; have hfz24_2 := Qd BK222.out 2; have hfz24_3 := Qd BK222.out 3; have hfz24_4 := Qd BK222.out 4; have hfz24_5 := Qd BK222.out 5; have hfz24_6 := Qd BK222.out 6))
                        go_ret3
                        exact ⟨_, by first|rfl|(simp [errW_none, errW_some] <;> rfl)|(simp [*, errW_none, errW_some] <;> rfl), by first|exact Kd.R_nil _ _ _ _ _|exact Kd.N_nil _ _ _ _ _|exact Kd.V_nil _ _ _ _ _|exact Kd.Q_nil _ _ _ _ _|exact Kd.S_nil _ _ _ _ _, by repeat (first|(with_reducible first|exact HB.out|apply Q8|apply Q5|apply Q9|refine Q6 ?_ GE222.out)|exact HB.out)⟩
                  · rw [if_neg c13] at H
                    exact absurd H (by simp)
                · rw [if_neg c12] at H
                  exact absurd H (by simp)
              · rw [if_neg c11] at H
                exact absurd H (by simp)
      · rw [if_neg c2] at H
        have c2b0 : decide (x8_1 ≤ (a0.size : Int)) = false := decide_eq_false c2
        clear c2
        simp only [Option.some.injEq, Prod.mk.injEq] at H
        obtain ⟨rfl, rfl, rfl⟩ := H
        go_wp2
        go_ret3
        exact ⟨_, by first|rfl|(simp [errW_none, errW_some] <;> rfl)|(simp [*, errW_none, errW_some] <;> rfl), by (with_reducible repeat (first|apply Kd.R_alloc|apply Kd.R_drewN|apply Kd.R_drew)); exact HO_5.out, by repeat (first|(with_reducible first|exact HB.out|apply Q8|apply Q5|apply Q9)|exact HB.out)⟩

/-! ### curtilageref10_Same: function 8 -/
def curtilageref10_Same.l0 : Nat → List (S40) → List (S40) → Int → Option (Bool)
  | 0, _, _, _ => none
  | k + 1, x0, x1, x5 => if x5 < (x0.length : Int) then (if 0 ≤ x5 then (if x5 < (x1.length : Int) then (if (!((((rd_T40 x0 x5).f0).toList) == (((rd_T40 x1 x5).f0).toList)) || ((!(((rd_T40 x0 x5).f1.f0) == ((rd_T40 x1 x5).f1.f0)) || (!(((rd_T40 x0 x5).f1.f1) == ((rd_T40 x1 x5).f1.f1)) || (!(((rd_T40 x0 x5).f1.f2) == ((rd_T40 x1 x5).f1.f2)) || (!(((rd_T40 x0 x5).f1.f3) == ((rd_T40 x1 x5).f1.f3)) || (!(((rd_T40 x0 x5).f1.f4) == ((rd_T40 x1 x5).f1.f4))))))) || (!((((rd_T40 x0 x5).f2).toList) == (((rd_T40 x1 x5).f2).toList))))) = true then (some false) else (curtilageref10_Same.l0 k x0 x1 (wrap64 (x5 + 1)))) else (none)) else (none)) else (some true)
def curtilageref10_Same.f (k : Nat) (l0 : List (S40)) (l1 : List (S40)) : Option (Bool) := if (l0.length : Int) = (l1.length : Int) then (curtilageref10_Same.l0 k l0 l1 0) else (some false)
set_option maxHeartbeats 8000000 in
set_option maxRecDepth 100000 in
theorem curtilageref10_Same.calls (k : Nat) (A0 : Option Addr) (c0 : Nat) (l0 : List (S40)) (A1 : Option Addr) (c1 : Nat) (l1 : List (S40)) (r : Bool) (w : World) (hr0 : Kd.C k40 w A0 l0.length l0) (hc0 : l0.length ≤ c0) (hr1 : Kd.C k40 w A1 l1.length l1) (hc1 : l1.length ≤ c1) (h : curtilageref10_Same.f k l0 l1 = some r) :
    Calls Tryz.prog 8 #[.slice A0 l0.length c0, .slice A1 l1.length c1] w fun e w' => e = .returned (.bool r) ∧ Drawn0 w w' := by
  have hu40 := Tryz.underlying40
  have HR0 := Q4 hr0
  have HC0 := Q4 hc0
  clear hr0 hc0
  have HR1 := Q4 hr1
  have HC1 := Q4 hc1
  clear hr1 hc1
  have H : (if (l0.length : Int) = (l1.length : Int) then (curtilageref10_Same.l0 k l0 l1 0) else (some false)) = some r := h
  clear h
  by_cases c3 : (l0.length : Int) = (l1.length : Int)
  · rw [if_pos c3] at H
    have c3b0 : ((l0.length : Int) == (l1.length : Int)) = true := Qm c3
    have c3b1 : ((l0.length : Int) != (l1.length : Int)) = false := Qh c3
    have c3b2 : (l0.length == l1.length) = true := by first | simpa using c3|(simp at c3 ⊢; omega)
    clear c3
    have H' := Q4 H
    clear H
    go_enter Tryz.func8, Tryz.ntmps8
    go_wp2
    repeat (go_quiet (fail); try go_wp2)
    go_loopg [5] k (fun kq v5 w' => ∃ (x5_1 : Int), v5 = .int .i64 x5_1 ∧ Aside0 (curtilageref10_Same.l0 kq l0 l1 x5_1 = some r) ∧ Aside0 (kq ≤ k) ∧ Drawn0 w w')
    case atStart => exact ⟨(0), (by first|rfl|(simp; done)|(simp [*]; done)), H', ⟨Nat.le_refl _⟩, by repeat (first|exact Drawn0.refl _|apply Drawn0.step)⟩
    case round =>
      clear H'
      try clear c1
      try clear p2
      try clear c3
      try clear c3b0
      try clear c3b1
      try clear c3b2
      obtain ⟨x5_1, rfl, HA, HK1, ⟨m1, rfl⟩⟩ := hrel
      cases gk with
      | zero => exact absurd HA.out (by simp [curtilageref10_Same.l0])
      | succ k1 =>
        have H := HA.out
        clear HA
        simp only [curtilageref10_Same.l0] at H
        by_cases c4 : x5_1 < (l0.length : Int)
        · rw [if_pos c4] at H
          have c4b0 : decide (x5_1 < (l0.length : Int)) = true := Qj c4
          clear c4
          by_cases c5 : 0 ≤ x5_1
          · rw [if_pos c5] at H
            have c5b0 : decide (0 ≤ x5_1) = true := Qj c5
            clear c5
            by_cases c6 : x5_1 < (l1.length : Int)
            · rw [if_pos c6] at H
              have c6b0 : decide (x5_1 < (l1.length : Int)) = true := Qj c6
              clear c6
              by_cases c7 : (!((((rd_T40 l0 x5_1).f0).toList) == (((rd_T40 l1 x5_1).f0).toList)) || ((!(((rd_T40 l0 x5_1).f1.f0) == ((rd_T40 l1 x5_1).f1.f0)) || (!(((rd_T40 l0 x5_1).f1.f1) == ((rd_T40 l1 x5_1).f1.f1)) || (!(((rd_T40 l0 x5_1).f1.f2) == ((rd_T40 l1 x5_1).f1.f2)) || (!(((rd_T40 l0 x5_1).f1.f3) == ((rd_T40 l1 x5_1).f1.f3)) || (!(((rd_T40 l0 x5_1).f1.f4) == ((rd_T40 l1 x5_1).f1.f4))))))) || (!((((rd_T40 l0 x5_1).f2).toList) == (((rd_T40 l1 x5_1).f2).toList))))) = true
              · rw [if_pos c7] at H
                have c7b0 : (!((((rd_T40 l0 x5_1).f0).toList) == (((rd_T40 l1 x5_1).f0).toList)) || ((!(((rd_T40 l0 x5_1).f1.f0) == ((rd_T40 l1 x5_1).f1.f0)) || (!(((rd_T40 l0 x5_1).f1.f1) == ((rd_T40 l1 x5_1).f1.f1)) || (!(((rd_T40 l0 x5_1).f1.f2) == ((rd_T40 l1 x5_1).f1.f2)) || (!(((rd_T40 l0 x5_1).f1.f3) == ((rd_T40 l1 x5_1).f1.f3)) || (!(((rd_T40 l0 x5_1).f1.f4) == ((rd_T40 l1 x5_1).f1.f4))))))) || (!((((rd_T40 l0 x5_1).f2).toList) == (((rd_T40 l1 x5_1).f2).toList))))) = true := c7
                clear c7
                obtain rfl := Qn H
                have p226 : 0 ≤ (x5_1 : Int) := Qc (by first|(with_reducible assumption)|assumption)
                have q226 : x5_1 < (l0.length : Int) := Qc (by first|(with_reducible assumption)|assumption)
                obtain ⟨ad226, e226, hx226_0, hx226_1, hx226_2, hx226_3, hx226_4, hx226_5, hx226_6⟩ := at_T40 HR0.out x5_1 p226 q226
                cases e226
                replace p226 := eq_true p226
                replace q226 := eq_true q226
                have p227 : 0 ≤ (x5_1 : Int) := Qc (by first|(with_reducible assumption)|assumption)
                have q227 : x5_1 < (l1.length : Int) := Qc (by first|(with_reducible assumption)|assumption)
                obtain ⟨ad227, e227, hx227_0, hx227_1, hx227_2, hx227_3, hx227_4, hx227_5, hx227_6⟩ := at_T40 HR1.out x5_1 p227 q227
                cases e227
                replace p227 := eq_true p227
                replace q227 := eq_true q227
                go_wp2
                repeat (go_quiet (fail); try go_wp2)
                go_ret
                exact ⟨by first|rfl|(simp; done)|(simp [*]; done), by repeat (first|exact Drawn0.refl _|apply Drawn0.step)⟩
              · rw [if_neg c7] at H
                have c7b0 : (!((((rd_T40 l0 x5_1).f0).toList) == (((rd_T40 l1 x5_1).f0).toList)) || ((!(((rd_T40 l0 x5_1).f1.f0) == ((rd_T40 l1 x5_1).f1.f0)) || (!(((rd_T40 l0 x5_1).f1.f1) == ((rd_T40 l1 x5_1).f1.f1)) || (!(((rd_T40 l0 x5_1).f1.f2) == ((rd_T40 l1 x5_1).f1.f2)) || (!(((rd_T40 l0 x5_1).f1.f3) == ((rd_T40 l1 x5_1).f1.f3)) || (!(((rd_T40 l0 x5_1).f1.f4) == ((rd_T40 l1 x5_1).f1.f4))))))) || (!((((rd_T40 l0 x5_1).f2).toList) == (((rd_T40 l1 x5_1).f2).toList))))) = false := by simpa using c7
                clear c7
                have H' := Q4 H
                clear H
                have p226 : 0 ≤ (x5_1 : Int) := Qc (by first|(with_reducible assumption)|assumption)
                have q226 : x5_1 < (l0.length : Int) := Qc (by first|(with_reducible assumption)|assumption)
                obtain ⟨ad226, e226, hx226_0, hx226_1, hx226_2, hx226_3, hx226_4, hx226_5, hx226_6⟩ := at_T40 HR0.out x5_1 p226 q226
                cases e226
                replace p226 := eq_true p226
                replace q226 := eq_true q226
                have p227 : 0 ≤ (x5_1 : Int) := Qc (by first|(with_reducible assumption)|assumption)
                have q227 : x5_1 < (l1.length : Int) := Qc (by first|(with_reducible assumption)|assumption)
                obtain ⟨ad227, e227, hx227_0, hx227_1, hx227_2, hx227_3, hx227_4, hx227_5, hx227_6⟩ := at_T40 HR1.out x5_1 p227 q227
                cases e227
                replace p227 := eq_true p227
                replace q227 := eq_true q227
                go_wp2
                repeat (go_quiet (fail); try go_wp2)
                go_roundg k1
                case measure => have := HK1.out; omega
                case rel => exact ⟨(wrap64 (x5_1 + 1)), (by first|rfl|(simp; done)|(simp [*]; done)), H', ⟨by have := HK1.out; omega⟩, by repeat (first|exact Drawn0.refl _|apply Drawn0.step)⟩
            · rw [if_neg c6] at H
              exact absurd H (by simp)
          · rw [if_neg c5] at H
            exact absurd H (by simp)
        · rw [if_neg c4] at H
          have c4b0 : decide (x5_1 < (l0.length : Int)) = false := decide_eq_false c4
          clear c4
          obtain rfl := Qn H
          go_wp2
          repeat (go_quiet (fail); try go_wp2)
          go_ret
          exact ⟨by first|rfl|(simp; done)|(simp [*]; done), by repeat (first|exact Drawn0.refl _|apply Drawn0.step)⟩
  · rw [if_neg c3] at H
    have c3b0 : ((l0.length : Int) == (l1.length : Int)) = false := Qk c3
    have c3b1 : ((l0.length : Int) != (l1.length : Int)) = true := Ql c3
    have c3b2 : (l0.length == l1.length) = false := by first | simpa using c3|(simp at c3 ⊢; omega)
    obtain rfl := Qn H
    go_enter Tryz.func8, Tryz.ntmps8
    go_wp2
    repeat (go_quiet (fail); try go_wp2)
    go_ret
    exact ⟨by first|rfl|(simp; done)|(simp [*]; done), by repeat (first|exact Drawn0.refl _|apply Drawn0.step)⟩

/-! ### curtilagelaw10_AsmReads: function 3 -/
def curtilagelaw10_AsmReads.f (k : Nat) (a0 : ByteArray) : Option (Bool) := if (a0.size : Int) > 600 then ((curtilagelaw10_awake.f k).bind fun t228 => (some t228)) else ((asm_Read.f k a0).bind fun bt229 => ((curtilageref10_Read.f k a0).bind fun bt234 => ((curtilageref10_Same.f k bt229.1 bt234.1).bind fun t239 => (if t239 = true then (if bt229.2.1 = bt234.2.1 then (if bt229.2.2 = bt234.2.2 then ((curtilagelaw10_awake.f k).bind fun t240 => (some t240)) else (some false)) else (some false)) else (some false)))))
set_option maxHeartbeats 8000000 in
set_option maxRecDepth 100000 in
theorem curtilagelaw10_AsmReads.calls (k : Nat) (a0 : ByteArray) (w : World) (HTAB0 : Env w) (h : curtilagelaw10_AsmReads.f k a0 = some true) :
  Calls Tryz.prog 3 #[.string a0] w fun e w' => e = .returned (.bool true) ∧ Below w.heap.size w w' := by
 have HTAB := Q4 HTAB0
 clear HTAB0
 have HB := Q4 (Below.refl w.heap.size w)
 have H := h
 unfold curtilagelaw10_AsmReads.f at H
 clear h
 by_cases c2 : (a0.size : Int) > 600
 ·rw [if_pos c2] at H
  have c2b0 : decide (600 < (a0.size : Int)) = true := Qj c2
  have c2b1 : decide (600 < a0.size) = true := Qj (by omega)
  clear c2
  replace H := Qi H
  obtain ⟨t228, A30, H⟩ := H
  replace H : (some t228) = some true := H
  have A3 := Q4 A30
  clear A30
  obtain rfl := Qn H
  go_enter Tryz.func3, Tryz.ntmps3
  go_wp2_with (first|((with_reducible refine gate_callee (f := 5) rfl ?_); refine gL (some 12) Tryz.func5 #[] ?_; (with_reducible refine (curtilagelaw10_awake.calls k _ (env_mono HTAB.out (by repeat (first|(with_reducible first|exact HB.out|apply Q8|apply Q5|apply Q9)|exact HB.out))) A3.out).mono ?_); rintro e w4 ⟨rfl, hb⟩; refine ⟨_, rfl, ?_⟩; have n0_ := Q4 (Qg (by repeat (first|(with_reducible first|exact HB.out|apply Q8|apply Q5|apply Q9)|exact HB.out)) hb); clear HB; have HB := n0_; clear n0_;(try clear hb);(try clear hb2);(try clear hk);(try clear hi)))
  go_ret
  exact ⟨by first|rfl|(simp [errW_none, errW_some] <;> rfl)|(simp [*, errW_none, errW_some] <;> rfl), by repeat (first|(with_reducible first|exact HB.out|apply Q8|apply Q5|apply Q9)|exact HB.out)⟩
 ·rw [if_neg c2] at H
  have c2b0 : decide (600 < (a0.size : Int)) = false := decide_eq_false c2
  have c2b1 : decide (600 < a0.size) = false := decide_eq_false (by omega)
  clear c2
  replace H := Qi H
  obtain ⟨⟨t229, t230, t231⟩, A50, H⟩ := H
  try dsimp only at H
  have A5 := Q4 A50
  clear A50
  replace H := Qi H
  obtain ⟨⟨t234, t235, t236⟩, A60, H⟩ := H
  try dsimp only at H
  have A6 := Q4 A60
  clear A60
  replace H := Qi H
  obtain ⟨t239, A70, H⟩ := H
  try dsimp only at H
  have A7 := Q4 A70
  clear A70
  by_cases c8 : t239 = true
  ·subst c8
   rw [if_pos rfl] at H
   by_cases c9 : t230 = t235
   ·rw [if_pos c9] at H
    have c9b0 : (t230 == t235) = true := Qm c9
    have c9b1 : (t230 != t235) = false := Qh c9
    clear c9
    by_cases c10 : t231 = t236
    ·rw [if_pos c10] at H
     have c10b0 : (t231 == t236) = true := Qm c10
     have c10b1 : (t231 != t236) = false := Qh c10
     clear c10
     replace H := Qi H
     obtain ⟨t240, A110, H⟩ := H
     replace H : (some t240) = some true := H
     have A11 := Q4 A110
     clear A110
     obtain rfl := Qn H
     go_enter Tryz.func3, Tryz.ntmps3
     go_wp2_with (first|((with_reducible refine gate_callee (f := 6) rfl ?_); refine gL (some 15) Tryz.func6 #[.string a0] ?_; (with_reducible refine (asm_Read.calls k a0 t229 t230 t231 _ (env_mono HTAB.out (by repeat (first|(with_reducible first|exact HB.out|apply Q8|apply Q5|apply Q9)|exact HB.out))) A5.out).mono ?_); rintro e w12 ⟨v232, rfl, ho0, hb⟩; refine ⟨_, rfl, ?_⟩; have n0_ := Q4 (Kd.R_lower ho0 bZ); have n1_ := Q4 (Qg (by repeat (first|(with_reducible first|exact HB.out|apply Q8|apply Q5|apply Q9)|exact HB.out)) hb); clear HB; have HO233 := n0_; have HB := n1_; clear n0_ n1_;(try clear hb);(try clear hb2);(try clear hk);(try clear hi);(try clear ho0))|((with_reducible refine gate_callee (f := 7) rfl ?_); refine gL (some 21) Tryz.func7 #[.string a0] ?_; (with_reducible refine (curtilageref10_Read.calls k a0 t234 t235 t236 _ A6.out).mono ?_); rintro e w13 ⟨v237, rfl, ho0, hb⟩; refine ⟨_, rfl, ?_⟩; have n0_ := Q4 (Kd.R_elder' (rK HO233) (Kd.R_base ho0) hb); have n1_ := Q4 (Kd.R_lower (Kd.R_new' ho0 (Kd.R_lt (rK HO233))) bZ); have n2_ := Q4 (Qg (by repeat (first|(with_reducible first|exact HB.out|apply Q8|apply Q5|apply Q9)|exact HB.out)) hb); clear HO233; clear HB; have HO233 := n0_; have HO238 := n1_; have HB := n2_; clear n0_ n1_ n2_;(try clear hb);(try clear hb2);(try clear hk);(try clear hi);(try clear ho0); obtain ⟨Ao14, co14, eo14⟩ := Kd.R_slice HO233.out; subst eo14; obtain ⟨Ao15, co15, eo15⟩ := Kd.R_slice HO238.out; subst eo15)|((with_reducible refine gate_callee (f := 8) rfl ?_); refine gL (some 27) Tryz.func8 #[.slice Ao14 t229.length co14, .slice Ao15 t234.length co15] ?_; (with_reducible refine (curtilageref10_Same.calls k _ _ t229 _ _ t234 true _ ?side1 ?side2 ?side3 ?side4 A7.out).mono ?_); (case side1 => repeat (first|exact (Kd.R_reads' HO233.out).2.2|(with_reducible refine Kd.C_alloc ?_ _)|(with_reducible refine Kd.C_drewN ?_ _)|(with_reducible refine Kd.C_drew ?_))); (case side2 => exact (Kd.R_reads' HO233.out).2.1); (case side3 => repeat (first|exact (Kd.R_reads' HO238.out).2.2|(with_reducible refine Kd.C_alloc ?_ _)|(with_reducible refine Kd.C_drewN ?_ _)|(with_reducible refine Kd.C_drew ?_))); (case side4 => exact (Kd.R_reads' HO238.out).2.1); rintro e w' ⟨rfl, ⟨nd, rfl⟩⟩; refine ⟨_, rfl, ?_⟩)|(go_at_call 5; (with_reducible refine (curtilagelaw10_awake.calls k _ (env_mono HTAB.out (by repeat (first|(with_reducible first|exact HB.out|apply Q8|apply Q5|apply Q9)|exact HB.out))) A11.out).mono ?_); rintro e w16 ⟨rfl, hb⟩; have n0_ := Q4 (Kd.R_below (rK HO233) hb); have n1_ := Q4 (Kd.R_below (rK HO238) hb); have n2_ := Q4 (Qg (by repeat (first|(with_reducible first|exact HB.out|apply Q8|apply Q5|apply Q9)|exact HB.out)) hb); clear HO233; clear HO238; clear HB; have HO233 := n0_; have HO238 := n1_; have HB := n2_; clear n0_ n1_ n2_;(try clear hb);(try clear hb2);(try clear hk);(try clear hi)))
     go_ret
     exact ⟨by first|rfl|(simp [errW_none, errW_some] <;> rfl)|(simp [*, errW_none, errW_some] <;> rfl), by repeat (first|(with_reducible first|exact HB.out|apply Q8|apply Q5|apply Q9)|exact HB.out)⟩
    ·rw [if_neg c10] at H
     have c10b0 : (t231 == t236) = false := Qk c10
     have c10b1 : (t231 != t236) = true := Ql c10
     exact absurd H (by first | decide)
   ·rw [if_neg c9] at H
    have c9b0 : (t230 == t235) = false := Qk c9
    have c9b1 : (t230 != t235) = true := Ql c9
    exact absurd H (by first | decide)
  ·replace c8 := Bool.eq_false_iff.mpr c8
   subst c8
   rw [if_neg (show ¬ (false = true) by decide)] at H
   exact absurd H (by first | decide)

/-! ### curtilagelaw10_few: function 9 -/

/-! ### curtilageref10_Good: function 11 -/

end Go.Proofs.YtbelnkdbghggmaaGreatDoor.X
namespace Go.Proofs.YtbelnkdbghggmaaGreatDoor.X
open Go.RowKit Go.Proofs.YtbelnkdbghggmaaGreatDoorW.PrintWords
set_option linter.unusedVariables false
set_option linter.unusedSimpArgs false
open Classical in
/-- The line of a text, if there is one. -/
noncomputable def findL (t : ByteArray) : Option S40 := if h : ∃ x : S40, wfX x ∧ goodB x = true ∧ lineT x = t.data.toList then some h.choose else none
theorem find_some {t : ByteArray} {x : S40} (h : findL t = some x) : wfX x ∧ goodB x = true ∧ lineT x = t.data.toList := by
  unfold findL at h
  split at h
  · rename_i hx
    rw [← Option.some.inj h]
    exact hx.choose_spec
  · cases h
theorem find_none {t : ByteArray} (h : findL t = none) (x : S40) (hw : wfX x) (hg : goodB x = true) : lineT x ≠ t.data.toList := by
  intro hl
  unfold findL at h
  rw [dif_pos ⟨x, hw, hg, hl⟩] at h
  cases h
theorem tell_inj {x y : S40} (h : tellR x true = tellR y true) : x = y := by
  have := congrArg lineOf h
  rwa [lineOf_tell, lineOf_tell] at this
theorem post_find {t : ByteArray} {r : RS} (h : Post t r) : (∀ x, findL t = some x → r = tellR x true) ∧ (findL t = none → okOf r = false) := by
  refine ⟨fun x hx => h.2 x (find_some hx).1 (find_some hx).2.1 (find_some hx).2.2, fun hn => ?_⟩
  cases hok : okOf r with
  | false => rfl
  | true => exact absurd (h.1 hok).2.2 (find_none hn _ (h.1 hok).1 (h.1 hok).2.1)
theorem find_of {x : S40} (hw : wfX x) (hg : goodB x = true) : findL (toB (lineT x)) = some x := by
  have hs := line_size hw hg
  obtain ⟨r, _, hp⟩ := asm_read_post 40 (Nat.le_refl _) (toB (lineT x)) (by rw [size_data, toB_data]; omega)
  cases hf : findL (toB (lineT x)) with
  | none => exact absurd (toB_data _).symm (find_none hf x hw hg)
  | some y =>
    have h1 := (post_find hp).1 y hf
    have h2 := hp.2 x hw hg (toB_data _).symm
    rw [h1] at h2
    rw [tell_inj h2]
/-- What stands ahead of the first byte 10, and behind it. -/
def nlA (l : List UInt8) : List UInt8 := l.takeWhile (fun c => c != 10)
def nlR (l : List UInt8) : List UInt8 := (l.dropWhile (fun c => c != 10)).drop 1
theorem span10 : ∀ l : List UInt8, ∃ r, l = nlA l ++ r ∧ (10 : UInt8) ∉ nlA l ∧ ((r = [] ∧ nlR l = []) ∨ r = 10 :: nlR l)
  | [] => ⟨[], rfl, by simp [nlA], .inl ⟨rfl, rfl⟩⟩
  | c :: l => by
    by_cases h : c = 10
    · subst h
      exact ⟨10 :: l, by simp [nlA], by simp [nlA], .inr (by simp [nlR])⟩
    · obtain ⟨r, h1, h2, h3⟩ := span10 l
      have ha : nlA (c :: l) = c :: nlA l := by simp [nlA, h]
      have hr : nlR (c :: l) = nlR l := by simp [nlR, h]
      rw [ha, hr]
      exact ⟨r, by rw [List.cons_append, ← h1], fun k => (List.mem_cons.1 k).elim (fun e => h e.symm) h2, h3⟩
theorem nl_none {l : List UInt8} (h : (10 : UInt8) ∉ l) : nlA l = l ∧ nlR l = [] := by
  obtain ⟨r, h1, h2, h3⟩ := span10 l
  rcases h3 with ⟨rfl, h4⟩ | h4
  · rw [List.append_nil] at h1
    exact ⟨h1.symm, h4⟩
  · exact absurd (by rw [h1, h4]; simp) h
theorem nl_len {l : List UInt8} (h : l ≠ []) : (nlR l).length < l.length ∧ (nlA l).length ≤ l.length := by
  obtain ⟨r, h1, _, h3⟩ := span10 l
  have h2 := congrArg List.length h1
  rw [List.length_append] at h2
  have hp : 0 < l.length := List.length_pos_iff.2 h
  rcases h3 with ⟨rfl, h4⟩ | h4
  · rw [h4]; simp only [List.length_nil] at *; omega
  · rw [h4, List.length_cons] at h2; omega
/-- The lines of a text. -/
noncomputable def readS : Nat → List UInt8 → List S40 → Nat → List S40 × Int × Int
  | 0, _, acc, _ => (acc, 0, 0)
  | n + 1, s, acc, m => if s = [] then (acc, 0, 0) else if nlA s = [] then readS n (nlR s) acc (m + 1) else match findL (toB (nlA s)) with
    | some x => readS n (nlR s) (acc ++ [x]) (m + 1)
    | none => ([], (m : Int), 11)
theorem aRead (n : Nat) : ∀ (s : ByteArray) (acc : List S40) (m k : Nat), s.size ≤ n → s.size ≤ 100000 → acc.length + s.size ≤ 200000 → m + s.size ≤ 200000 → s.size + 50 ≤ k → asm_Read.l0 k s acc (m : Int) = some (readS (n + 1) s.data.toList acc m) := by
  induction n with
  | zero =>
    intro s acc m k hn hs ha hm hk
    obtain ⟨k, rfl⟩ : ∃ q, k = q + 1 := ⟨k - 1, by omega⟩
    have he : s.data.toList = [] := List.length_eq_zero_iff.1 (by rw [← size_data]; omega)
    simp only [asm_Read.l0, readS]
    rw [if_pos ((toList_iff s).2 he), if_pos he]
  | succ n ih =>
    intro s acc m k hn hs ha hm hk
    obtain ⟨k, rfl⟩ : ∃ q, k = q + 1 := ⟨k - 1, by omega⟩
    rw [asm_Read.l0, readS]
    by_cases he : s.data.toList = []
    · rw [if_pos ((toList_iff s).2 he), if_pos he]
    · have hne : ¬ s.toList = ([] : List UInt8) := fun h => he ((toList_iff s).1 h)
      have hl := nl_len he
      rw [← size_data] at hl
      have hcut : ∃ f, strings_Cut.f s (⟨#[10]⟩ : ByteArray) = some (toB (nlA s.data.toList), toB (nlR s.data.toList), f) := by
        unfold strings_Cut.f cutB
        rw [if_pos (by omega), show (⟨#[10]⟩ : ByteArray).data.toList = [10] from rfl]
        obtain ⟨r, h1, h2, h3⟩ := span10 s.data.toList
        rcases h3 with ⟨rfl, h4⟩ | h4
        · have hno : (10 : UInt8) ∉ s.data.toList := by rw [h1, List.append_nil]; exact h2
          have hnl := nl_none hno
          rw [cut_none 10 _ hno, hnl.1, hnl.2]
          exact ⟨false, rfl⟩
        · have hca := cut_at 10 (nlA s.data.toList) (nlR s.data.toList) h2
          rw [← h4, ← h1] at hca
          rw [hca]
          exact ⟨true, rfl⟩
      obtain ⟨f, hcut⟩ := hcut
      have hzA : (toB (nlA s.data.toList)).size = (nlA s.data.toList).length := rfl
      have hzR : (toB (nlR s.data.toList)).size = (nlR s.data.toList).length := rfl
      have hnext : wrap64 ((m : Int) + 1) = ((m + 1 : Nat) : Int) := by rw [w64 _ (by omega) (by omega)]; omega
      rw [if_neg hne, if_neg he, hcut]
      simp only [Option.bind_some]
      rw [hnext]
      by_cases ht : nlA s.data.toList = []
      · rw [if_pos ((toList_iff _).2 ht), if_pos ht]
        exact ih (toB (nlR s.data.toList)) acc (m + 1) k (by omega) (by omega) (by omega) (by omega) (by omega)
      · have htn : ¬ (toB (nlA s.data.toList)).toList = ([] : List UInt8) := fun h => ht ((toList_iff _).1 h)
        obtain ⟨r, hr, hp⟩ := asm_read_post k (by omega) (toB (nlA s.data.toList)) (by omega)
        rw [if_neg htn, if_neg ht, hr]
        simp only [Option.bind_some]
        cases hf : findL (toB (nlA s.data.toList)) with
        | some x =>
          have hrx := (post_find hp).1 x hf
          rw [hrx]
          show (if true = true then (if acc.length < 1954687338268 then asm_Read.l0 k (toB (nlR s.data.toList)) (acc ++ [x]) ((m + 1 : Nat) : Int) else none) else some (([] : List S40), (m : Int), 11)) = _
          rw [if_pos rfl, if_pos (by omega)]
          exact ih (toB (nlR s.data.toList)) (acc ++ [x]) (m + 1) k (by omega) (by omega) (by rw [List.length_append, List.length_cons, List.length_nil]; omega) (by omega) (by omega)
        | none =>
          have hrn : r.2.2.2.2.2.2.2 = false := (post_find hp).2 hf
          rw [hrn, if_neg (by decide)]
theorem asm_Read_val (K : Nat) (s : ByteArray) (hs : s.size ≤ 100000) (hK : s.size + 50 ≤ K) : asm_Read.f K s = some (readS (s.size + 1) s.data.toList [] 0) := by
  unfold asm_Read.f
  exact aRead s.size s [] 0 K (Nat.le_refl _) hs (by simp only [List.length_nil]; omega) (by omega) hK
end Go.Proofs.YtbelnkdbghggmaaGreatDoor.X
namespace Go.Proofs.YtbelnkdbghggmaaGreatDoor.X
open Go.RowKit Go.Proofs.YtbelnkdbghggmaaGreatDoorW.PrintWords
set_option linter.unusedVariables false
set_option linter.unusedSimpArgs false
abbrev RL (k : Nat) (s : ByteArray) (acc : List S40) (m fr i : Nat) : Option (List S40 × Int × Int) := curtilageref10_Read.l0 k s acc (m : Int) (fr : Int) (i : Int)
theorem RL_over (k : Nat) (s : ByteArray) (acc : List S40) (m fr i : Nat) (h : s.size < i) : RL (k + 1) s acc m fr i = some (acc, 0, 0) := by
  show curtilageref10_Read.l0 (k + 1) s acc (m : Int) (fr : Int) (i : Int) = _
  rw [curtilageref10_Read.l0, if_neg (by omega)]
theorem RL_skip (k : Nat) (s : ByteArray) (hs : s.size ≤ 100000) (acc : List S40) (m fr i : Nat) (h : i < s.data.toList.length) (h10 : s.data.toList[i]'h ≠ 10) : RL (k + 2) s acc m fr i = RL k s acc m fr (i + 1) := by
  have hlt : i < s.size := h
  have hne : ¬ (((s.data.toList[i]'h).toNat : Int) = 10) := fun e => h10 (UInt8.toNat_inj.1 (by show (s.data.toList[i]'h).toNat = 10; omega))
  show curtilageref10_Read.l0 (k + 2) s acc (m : Int) (fr : Int) (i : Int) = curtilageref10_Read.l0 k s acc (m : Int) (fr : Int) ((i + 1 : Nat) : Int)
  rw [curtilageref10_Read.l0, if_pos (by omega), if_pos (by omega), if_pos (by omega), bt_get s i h, if_neg hne, curtilageref10_Read.j1, if_pos rfl, w64 _ (by omega) (by omega)]
  rfl
theorem RL_scan (s : ByteArray) (hs : s.size ≤ 100000) (acc : List S40) (m fr K0 : Nat) : ∀ (a r : List UInt8) (i k : Nat), s.data.toList.drop i = a ++ r → (10 : UInt8) ∉ a → 2 * a.length + K0 ≤ k → ∃ k', K0 ≤ k' ∧ RL k s acc m fr i = RL k' s acc m fr (i + a.length)
  | [], r, i, k, _, _, hk => ⟨k, by simpa using hk, rfl⟩
  | c :: a, r, i, k, hd, hn, hk => by
    simp only [List.length_cons] at hk
    obtain ⟨k, rfl⟩ : ∃ q, k = q + 2 := ⟨k - 2, by omega⟩
    obtain ⟨hlt, hc, hdr⟩ := drop_cons hd
    obtain ⟨k', h1, h2⟩ := RL_scan s hs acc m fr K0 a r (i + 1) k hdr (fun h => hn (List.mem_cons_of_mem _ h)) (by omega)
    refine ⟨k', h1, ?_⟩
    rw [RL_skip k s hs acc m fr i hlt (by rw [hc]; exact fun e => hn (by rw [e]; exact List.mem_cons_self)), h2, List.length_cons, show i + 1 + a.length = i + (a.length + 1) from by omega]
/-- What the reader does with one line. -/
noncomputable def lineStep (k : Nat) (s : ByteArray) (acc : List S40) (m j : Nat) (t : List UInt8) : Option (List S40 × Int × Int) := if t = [] then RL k s acc (m + 1) (j + 1) (j + 1) else match findL (toB t) with
  | some x => RL k s (acc ++ [x]) (m + 1) (j + 1) (j + 1)
  | none => some ([], (m : Int), 11)
theorem RJ (k : Nat) (hk : 2100 ≤ k) (s : ByteArray) (hs : s.size ≤ 600) (acc : List S40) (m fr j : Nat) (hf : fr ≤ j) (hj : j ≤ s.size) (hm : m ≤ 100000) (ha : acc.length ≤ 100000) :
    curtilageref10_Read.j1 (k + 1) s acc (m : Int) (fr : Int) (j : Int) false = lineStep k s acc m j ((s.data.toList.drop fr).take (j - fr)) := by
  have hex : s.extract ((fr : Int)).toNat ((j : Int)).toNat = toB ((s.data.toList.drop fr).take (j - fr)) := by
    apply ba_ext
    rw [ext_data, toB_data, Int.toNat_natCast, Int.toNat_natCast]
  have hm1 : wrap64 ((m : Int) + 1) = ((m + 1 : Nat) : Int) := by rw [w64 _ (by omega) (by omega)]; omega
  have hj1 : wrap64 ((j : Int) + 1) = ((j + 1 : Nat) : Int) := by rw [w64 _ (by omega) (by omega)]; omega
  have hsz : (toB ((s.data.toList.drop fr).take (j - fr))).size ≤ 600 := by
    rw [size_data, toB_data, List.length_take, List.length_drop, ← size_data]
    omega
  rw [curtilageref10_Read.j1, if_neg (by decide), if_pos (by omega), if_pos (by omega), if_pos (by omega), hex, hm1, hj1]
  unfold lineStep
  generalize (s.data.toList.drop fr).take (j - fr) = t at hsz ⊢
  by_cases ht : t = []
  · rw [if_pos ((toList_iff (toB t)).2 ht), if_pos ht]
  · rw [if_neg (fun h => ht ((toList_iff (toB t)).1 h)), if_neg ht]
    obtain ⟨r, hr, hp⟩ := rRead_post k hk (toB t) hsz
    rw [hr]
    simp only [Option.bind_some]
    cases hf : findL (toB t) with
    | some x =>
      rw [(post_find hp).1 x hf]
      show (if true = true then (if acc.length < 1954687338268 then RL k s (acc ++ [x]) (m + 1) (j + 1) (j + 1) else none) else some (([] : List S40), (m : Int), 11)) = _
      rw [if_pos rfl, if_pos (by omega)]
    | none =>
      have hrn : r.2.2.2.2.2.2.2 = false := (post_find hp).2 hf
      rw [hrn, if_neg (by decide)]
theorem RL_true (k : Nat) (s : ByteArray) (hs : s.size ≤ 100000) (acc : List S40) (m fr i : Nat) (hi : i ≤ s.size) : curtilageref10_Read.j1 (k + 1) s acc (m : Int) (fr : Int) (i : Int) true = RL k s acc m fr (i + 1) := by
  show _ = curtilageref10_Read.l0 k s acc (m : Int) (fr : Int) ((i + 1 : Nat) : Int)
  rw [curtilageref10_Read.j1, if_pos rfl, w64 _ (by omega) (by omega)]
  rfl
theorem RL_nil (k : Nat) (s : ByteArray) (hs : s.size ≤ 100000) (acc : List S40) (m : Nat) : RL (k + 3) s acc m s.size s.size = some (acc, 0, 0) := by
  show curtilageref10_Read.l0 (k + 3) s acc (m : Int) (s.size : Int) (s.size : Int) = _
  rw [curtilageref10_Read.l0, if_pos (by omega), if_neg (by omega)]
  simp only [if_true, beq_self_eq_true]
  rw [RL_true (k + 1) s hs acc m s.size s.size (Nat.le_refl _)]
  exact RL_over k s acc m s.size (s.size + 1) (by omega)
theorem drop_all {l : List UInt8} {i : Nat} (h : l.drop i = []) : l.length ≤ i := by
  rcases Nat.lt_or_ge i l.length with h1 | h1
  · rw [List.drop_eq_getElem_cons h1] at h; cases h
  · exact h1
set_option maxRecDepth 100000 in
theorem RL_val (S : ByteArray) (hS : S.size ≤ 600) (n : Nat) : ∀ (s : List UInt8) (acc : List S40) (m fr k : Nat), s.length ≤ n → S.data.toList.drop fr = s → fr ≤ S.size + 1 → m ≤ fr → acc.length ≤ fr → 4 * s.length + 2304 ≤ k → RL k S acc m fr fr = some (readS (n + 1) s acc m) := by
  induction n with
  | zero =>
    intro s acc m fr k hn hd hfr hm ha hk
    have he : s = [] := List.length_eq_zero_iff.1 (by omega)
    subst he
    obtain ⟨k, rfl⟩ : ∃ q, k = q + 3 := ⟨k - 3, by omega⟩
    have hge := drop_all hd
    rw [← size_data] at hge
    rw [readS, if_pos rfl]
    rcases Nat.lt_or_ge S.size fr with h1 | h1
    · exact RL_over _ _ _ _ _ _ h1
    · have e : fr = S.size := by omega
      subst e
      exact RL_nil k S (by omega) acc m
  | succ n ih =>
    intro s acc m fr k hn hd hfr hm ha hk
    by_cases he : s = []
    · subst he
      obtain ⟨k, rfl⟩ : ∃ q, k = q + 3 := ⟨k - 3, by omega⟩
      have hge := drop_all hd
      rw [← size_data] at hge
      rw [readS, if_pos rfl]
      rcases Nat.lt_or_ge S.size fr with h1 | h1
      · exact RL_over _ _ _ _ _ _ h1
      · have e : fr = S.size := by omega
        subst e
        exact RL_nil k S (by omega) acc m
    · have hfl : fr < S.size := by
        rcases Nat.lt_or_ge fr S.size with h1 | h1
        · exact h1
        · rw [List.drop_eq_nil_of_le (by rw [← size_data]; exact h1)] at hd
          exact absurd hd.symm he
      have hsl : s.length = S.size - fr := by rw [← hd, List.length_drop, ← size_data]
      obtain ⟨r, h1, h2, h3⟩ := span10 s
      have hl := nl_len he
      have hpos : 0 < s.length := List.length_pos_iff.2 he
      have h1l := congrArg List.length h1
      rw [List.length_append] at h1l
      rw [readS, if_neg he]
      have hk0 : 2 * (nlA s).length + (4 * (nlR s).length + 2306) ≤ k := by
        rcases h3 with ⟨hr0, hn0⟩ | hr1
        · rw [hr0, List.length_nil] at h1l
          rw [hn0, List.length_nil]
          omega
        · have h6 := congrArg List.length hr1
          rw [List.length_cons] at h6
          omega
      obtain ⟨k', hk', hsc⟩ := RL_scan S (by omega) acc m fr (4 * (nlR s).length + 2306) (nlA s) r fr k (by rw [hd]; exact h1) h2 hk0
      rw [hsc]
      obtain ⟨k', rfl⟩ : ∃ q, k' = q + 2 := ⟨k' - 2, by omega⟩
      have htk : (S.data.toList.drop fr).take (fr + (nlA s).length - fr) = nlA s := by
        rw [hd, show fr + (nlA s).length - fr = (nlA s).length from by omega]
        have h4 : (nlA s ++ r).take (nlA s).length = nlA s := by simp
        rw [← h1] at h4
        exact h4
      have hline : curtilageref10_Read.j1 (k' + 1) S acc (m : Int) (fr : Int) ((fr + (nlA s).length : Nat) : Int) false = lineStep k' S acc m (fr + (nlA s).length) (nlA s) := by
        rw [RJ k' (by omega) S hS acc m fr (fr + (nlA s).length) (by omega) (by omega) (by omega) (by omega), htk]
      have hstep : RL (k' + 2) S acc m fr (fr + (nlA s).length) = lineStep k' S acc m (fr + (nlA s).length) (nlA s) := by
        show curtilageref10_Read.l0 (k' + 2) S acc (m : Int) (fr : Int) ((fr + (nlA s).length : Nat) : Int) = _
        rw [curtilageref10_Read.l0, if_pos (by omega)]
        rcases h3 with ⟨hr0, hn0⟩ | hr1
        · have hend : fr + (nlA s).length = S.size := by rw [hr0, List.length_nil] at h1l; omega
          have hnf : (((fr + (nlA s).length : Nat) : Int) == (fr : Int)) = false := by
            rw [beq_eq_false_iff_ne]
            rw [hr0, List.length_nil] at h1l
            omega
          rw [if_neg (by omega), if_pos (by omega), hnf]
          exact hline
        · have hlt : fr + (nlA s).length < S.data.toList.length := by rw [← size_data]; rw [hr1, List.length_cons] at h1l; omega
          have hb : bt S ((fr + (nlA s).length : Nat) : Int) = 10 := by
            rw [bt_get S _ hlt]
            have : S.data.toList[fr + (nlA s).length]'hlt = 10 := by
              have h4 : (S.data.toList.drop fr)[(nlA s).length]? = some 10 := by
                have h5 : (nlA s ++ r)[(nlA s).length]? = some 10 := by rw [hr1]; simp
                rw [← h1] at h5
                rw [hd]
                exact h5
              rw [List.getElem?_drop, List.getElem?_eq_getElem hlt] at h4
              exact Option.some.inj h4
            rw [this]
            rfl
          have hlt2 : fr + (nlA s).length < S.size := hlt
          rw [if_pos (by omega), if_pos (by omega), if_pos hb, if_neg (by omega)]
          exact hline
      rw [hstep]
      have hnext : S.data.toList.drop (fr + (nlA s).length + 1) = nlR s := by
        rw [show fr + (nlA s).length + 1 = fr + ((nlA s).length + 1) from by omega, ← List.drop_drop, hd]
        have h5 : (nlA s ++ r).drop ((nlA s).length + 1) = nlR s := by
          rcases h3 with ⟨hr0, hn0⟩ | hr1
          · rw [hr0, hn0, List.append_nil]
            exact List.drop_eq_nil_of_le (by omega)
          · rw [hr1, show nlA s ++ 10 :: nlR s = (nlA s ++ [10]) ++ nlR s from by simp]
            exact List.drop_left' (by simp)
        rw [← h1] at h5
        exact h5
      unfold lineStep
      by_cases ht : nlA s = []
      · rw [if_pos ht, if_pos ht]
        exact ih (nlR s) acc (m + 1) _ k' (by omega) hnext (by omega) (by omega) (by omega) (by omega)
      · rw [if_neg ht, if_neg ht]
        cases hf : findL (toB (nlA s)) with
        | none => rfl
        | some x => exact ih (nlR s) (acc ++ [x]) (m + 1) _ k' (by omega) hnext (by omega) (by omega) (by rw [List.length_append, List.length_cons, List.length_nil]; omega) (by omega)
theorem rRead_val (K : Nat) (s : ByteArray) (hs : s.size ≤ 600) (hK : 5000 ≤ K) : curtilageref10_Read.f K s = some (readS (s.size + 1) s.data.toList [] 0) := by
  unfold curtilageref10_Read.f
  exact RL_val s hs s.size s.data.toList [] 0 0 K (Nat.le_refl _) (by simp) (by omega) (by omega) (by simp) (by rw [← size_data]; omega)
/-- Lines are the same as they are. -/
theorem same_l (l : List S40) (hl : l.length ≤ 1000000) : ∀ (d i k : Nat), i + d = l.length → d < k → curtilageref10_Same.l0 k l l (i : Int) = some true
  | 0, i, k, hi, hk => by
    obtain ⟨k, rfl⟩ : ∃ q, k = q + 1 := ⟨k - 1, by omega⟩
    rw [curtilageref10_Same.l0, if_neg (by omega)]
  | d + 1, i, k, hi, hk => by
    obtain ⟨k, rfl⟩ : ∃ q, k = q + 1 := ⟨k - 1, by omega⟩
    rw [curtilageref10_Same.l0, if_pos (by omega), if_pos (by omega), if_pos (by omega)]
    simp only [beq_self_eq_true, Bool.not_true, Bool.or_self, Bool.false_eq_true, if_false]
    rw [w64 _ (by omega) (by omega)]
    exact same_l l hl d (i + 1) k (by omega) (by omega)
theorem same_self (K : Nat) (l : List S40) (hl : l.length ≤ 1000000) (hK : l.length < K) : curtilageref10_Same.f K l l = some true := by
  unfold curtilageref10_Same.f
  rw [if_pos rfl]
  exact same_l l hl l.length 0 K (by omega) hK
end Go.Proofs.YtbelnkdbghggmaaGreatDoor.X
namespace Go.Proofs.YtbelnkdbghggmaaGreatDoor.X
open Go.RowKit Go.Proofs.YtbelnkdbghggmaaGreatDoorW.PrintWords
set_option linter.unusedVariables false
set_option linter.unusedSimpArgs false
def fine (x : S40) : Prop := wfX x ∧ goodB x = true
theorem readS_fine : ∀ (n : Nat) (s : List UInt8) (acc : List S40) (m : Nat), (∀ x ∈ acc, fine x) → (∀ x ∈ (readS n s acc m).1, fine x) ∧ (readS n s acc m).1.length ≤ acc.length + n
  | 0, s, acc, m, h => ⟨h, by rw [readS]; exact Nat.le_refl _⟩
  | n + 1, s, acc, m, h => by
    rw [readS]
    split
    · exact ⟨h, by show acc.length ≤ _; omega⟩
    · split
      · have := readS_fine n (nlR s) acc (m + 1) h
        exact ⟨this.1, by have := this.2; omega⟩
      · cases hf : findL (toB (nlA s)) with
        | none => exact And.intro (fun x hx => absurd hx List.not_mem_nil) (Nat.zero_le _)
        | some x =>
          have hfs := find_some hf
          have := readS_fine n (nlR s) (acc ++ [x]) (m + 1) (fun y hy => by
            rcases List.mem_append.1 hy with hy | hy
            · exact h y hy
            · rw [List.mem_singleton] at hy
              rw [hy]
              exact ⟨hfs.1, hfs.2.1⟩)
          refine ⟨this.1, ?_⟩
          have h2 := this.2
          rw [List.length_append, List.length_cons, List.length_nil] at h2
          show (readS n (nlR s) (acc ++ [x]) (m + 1)).1.length ≤ _
          omega
theorem awake_val (K : Nat) (hK : 60 ≤ K) : curtilagelaw10_awake.f K = some true := by
  have hR : asm_Read.f K (⟨#[97, 58]⟩ : ByteArray) = some ([markL ⟨#[97]⟩], 0, 0) := by
    have hw : wfX (markL ⟨#[97]⟩) := mark_wf _ (by decide)
    have hg : goodB (markL ⟨#[97]⟩) = true := by decide +kernel
    have hl : lineT (markL ⟨#[97]⟩) = [97, 58] := line_mark (x := markL ⟨#[97]⟩) (fun h => by rw [ByteArray.toList_eq] at h; cases h)
    have hf := find_of hw hg
    rw [hl] at hf
    rw [asm_Read_val K _ (by decide) (by show 2 + 50 ≤ K; omega)]
    show some (readS 3 [97, 58] [] 0) = _
    have hA : nlA [97, 58] = [97, 58] ∧ nlR [97, 58] = [] := nl_none (by decide)
    rw [readS, if_neg (by simp), hA.1, hA.2, if_neg (by simp), hf]
    show some (readS 2 [] ([] ++ [markL ⟨#[97]⟩]) 1) = _
    rw [readS, if_pos rfl]
    rfl
  unfold curtilagelaw10_awake.f
  rw [hR]
  decide +kernel
theorem AsmReads_val (s : ByteArray) : ∃ k, curtilagelaw10_AsmReads.f k s = some true := by
  refine ⟨6000, ?_⟩
  unfold curtilagelaw10_AsmReads.f
  by_cases h : (s.size : Int) > 600
  · rw [if_pos h, awake_val 6000 (by decide)]
    rfl
  · have hf := readS_fine (s.size + 1) s.data.toList [] 0 (fun x hx => by cases hx)
    rw [if_neg h, asm_Read_val 6000 s (by omega) (by omega), rRead_val 6000 s (by omega) (by decide)]
    generalize readS (s.size + 1) s.data.toList [] 0 = r at hf ⊢
    obtain ⟨l, n, e⟩ := r
    have hl : l.length ≤ 0 + (s.size + 1) := hf.2
    simp only [Option.bind_some]
    rw [same_self 6000 l (by omega) (by omega), awake_val 6000 (by decide)]
    simp only [Option.bind_some, if_true]
end Go.Proofs.YtbelnkdbghggmaaGreatDoor.X
