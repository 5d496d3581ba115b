/- Contract of inst.Decode. -/
import Derived.Test.YtbelnkdbghggmaaDoorI1
import Derived.Deep.RegionHeld3
import Derived.Deep.DeepCutAuto
namespace Go.Proofs.YtbelnkdbghggmaaDoor.X
open Go.RowKit Go.Proofs.YtbelnkdbghggmaaDoorW.PrintWords Go.Proofs.YtbelnkdbghggmaaDoorW.PrintLast
set_option linter.unusedVariables false
set_option linter.unusedSimpArgs false
set_option maxRecDepth 100000 in
set_option maxHeartbeats 8000000 in
theorem reg8 (B : Nat) (x : Int) (w : World) (hx : w.cell? ⟨B, 0, none⟩ = some (.int .u64 x)) :
    Calls Tryd.prog 26 #[.int .i64 8, .pointer (some ⟨B, 0, none⟩)] w fun e w' => e = .returned (.int .i64 (wrap64 (Go.bits .and .u64 (x / 256) 15))) ∧ w' = w := by
  go_enter Tryd.func26, Tryd.ntmps26
  go_wp2
  go_ret
  exact ⟨rfl, rfl⟩
set_option maxRecDepth 100000 in
set_option maxHeartbeats 8000000 in
theorem reg12 (B : Nat) (x : Int) (w : World) (hx : w.cell? ⟨B, 0, none⟩ = some (.int .u64 x)) :
    Calls Tryd.prog 26 #[.int .i64 12, .pointer (some ⟨B, 0, none⟩)] w fun e w' => e = .returned (.int .i64 (wrap64 (Go.bits .and .u64 (x / 4096) 15))) ∧ w' = w := by
  go_enter Tryd.func26, Tryd.ntmps26
  go_wp2
  go_ret
  exact ⟨rfl, rfl⟩
set_option maxRecDepth 100000 in
set_option maxHeartbeats 8000000 in
theorem reg16 (B : Nat) (x : Int) (w : World) (hx : w.cell? ⟨B, 0, none⟩ = some (.int .u64 x)) :
    Calls Tryd.prog 26 #[.int .i64 16, .pointer (some ⟨B, 0, none⟩)] w fun e w' => e = .returned (.int .i64 (wrap64 (Go.bits .and .u64 (x / 65536) 15))) ∧ w' = w := by
  go_enter Tryd.func26, Tryd.ntmps26
  go_wp2
  go_ret
  exact ⟨rfl, rfl⟩
/-- The instruction that a word's parts are. -/
def decOp (x : Int) : Int := IntKind.i64.wrap (Go.bits .and .u64 x 255)
def decA (x : Int) : Int := wrap64 (Go.bits .and .u64 (x / 256) 15)
def decB (x : Int) : Int := wrap64 (Go.bits .and .u64 (x / 4096) 15)
def decC (x : Int) : Int := wrap64 (Go.bits .and .u64 (x / 65536) 15)
set_option maxRecDepth 100000 in
set_option maxHeartbeats 8000000 in
theorem Decode_walk (x : Int) (im : Int) (t : Bool) (ec : Int) (w : World) (him : IntKind.i32.wrap (x / 4294967296) = im) (hf : inst_Fit.f (decOp x) (decA x) (decB x) (decC x) im = some t) (hec : t = true → inst_Encode.f (decOp x) (decA x) (decB x) (decC x) im = some ec) :
    Calls Tryd.prog 15 #[.int .u64 x] w fun e w' => e = .returned (.tuple #[if t = true ∧ ec = x then .agg #[.int .i64 (decOp x), .int .i64 (decA x), .int .i64 (decB x), .int .i64 (decC x), .int .i32 im] else .agg #[.int .i64 0, .int .i64 0, .int .i64 0, .int .i64 0, .int .i32 0], .bool (decide (t = true ∧ ec = x))]) ∧ Below w.heap.size w w' := by
  generalize hrv : Ending.returned (Value.tuple #[if t = true ∧ ec = x then Value.agg #[.int .i64 (decOp x), .int .i64 (decA x), .int .i64 (decB x), .int .i64 (decC x), .int .i32 im] else Value.agg #[.int .i64 0, .int .i64 0, .int .i64 0, .int .i64 0, .int .i32 0], Value.bool (decide (t = true ∧ ec = x))]) = rv
  have HRV := Aside0.mk hrv
  clear hrv
  have HF := Aside0.mk hf
  have HEC := Aside0.mk hec
  have HB := Aside0.mk (below_alloc (below_alloc (Below.refl w.heap.size w) (.cells #[.int .u64 x] 40)) (.cells #[.int .i64 0, .int .i64 0, .int .i64 0, .int .i64 0, .int .i32 0] 26))
  have hu23 := Tryd.underlying26
  clear hf hec
  go_enter Tryd.func15, Tryd.ntmps15
  go_upto_region 2 with fail
  go_cut [5] (fun s5 wx => s5 = .pointer (some ⟨w.heap.size + 2, 0, none⟩) ∧ Below w.heap.size w wx ∧ wx.heap[w.heap.size]? = some (.cells #[.int .u64 x] 40 (0, 0)) ∧ wx.heap[w.heap.size + 1]? = some (.cells #[.int .i64 0, .int .i64 0, .int .i64 0, .int .i64 0, .int .i32 0] 26 (0, 0)) ∧ wx.heap[w.heap.size + 2]? = some (.cells #[.int .i64 (decOp x), .int .i64 (decA x), .int .i64 (decB x), .int .i64 (decC x), .int .i32 im] 26 (0, 0)))
  case first =>
    go_region_held3 (fun w' => w'.cell? ⟨w.heap.size, 0, none⟩ = some (.int .u64 x)) (simp [go_sem, World.cell?_alloc_past])
      (first | (go_at_call 26; first | ((with_reducible refine (reg8 w.heap.size x _ ?s1).mono ?_); (case s1 => simp [*]; done); rintro e_ w1 ⟨rfl, rfl⟩) | ((with_reducible refine (reg12 w.heap.size x _ ?s1).mono ?_); (case s1 => simp [*]; done); rintro e_ w1 ⟨rfl, rfl⟩) | ((with_reducible refine (reg16 w.heap.size x _ ?s1).mono ?_); (case s1 => simp [*]; done); rintro e_ w1 ⟨rfl, rfl⟩)))
    all_goals
      go_wp2_with fail
      go_meet
      refine ⟨rfl, by first | exact below_drew1 (below_alloc HB.out _) | (apply below_drew1; apply below_alloc; exact HB.out), ?_, ?_, ?_⟩
      · refine blk_drew (blk_alloc (blk_alloc ?_ _) _); refine blk_new1 _ _ _ ?_; rfl
      · refine blk_drew (blk_alloc ?_ _); refine blk_new1 _ _ _ ?_; simp
      · refine blk_drew ?_; refine blk_new1 _ _ _ ?_; simp
  case rest =>
    obtain ⟨rfl, hBx, hx0, hz0, hi0⟩ := hcut
    have hx1 := blk_cell hx0 0
    have hi1 := blk_cell hi0 0
    have hi2 := blk_cell hi0 1
    have hi3 := blk_cell hi0 2
    have hi4 := blk_cell hi0 3
    have hi5 := blk_cell hi0 4
    simp only [List.getElem?_toArray, List.getElem?_cons_zero, List.getElem?_cons_succ] at hx1 hi1 hi2 hi3 hi4 hi5
    clear HB
    cases t
    · go_wp2
      go_region_with (first | (go_at_call 27; (with_reducible refine (inst_Fit.calls _ _ _ _ _ false _ HF.out).mono ?_); rintro e_ w1 ⟨rfl, hb⟩))
      all_goals
        have hz0b := blk_below (by repeat (first | exact hz0 | apply blk_drew)) hb
        have hc0 := (blk_cell hz0b 0).trans rfl
        have hc1 := (blk_cell hz0b 1).trans rfl
        have hc2 := (blk_cell hz0b 2).trans rfl
        have hc3 := (blk_cell hz0b 3).trans rfl
        have hc4 := (blk_cell hz0b 4).trans rfl
        have hf0 := blk_frozen hz0b 0
        have hf1 := blk_frozen hz0b 1
        have hf2 := blk_frozen hz0b 2
        have hf3 := blk_frozen hz0b 3
        have hf4 := blk_frozen hz0b 4
        go_wp2
        have hsz := hBx.size
        have hz0d := blk_put (blk_put (blk_put (blk_put (blk_put (hz0b) 0 (.int .i64 0) rfl) 1 (.int .i64 0) rfl) 2 (.int .i64 0) rfl) 3 (.int .i64 0) rfl) 4 (.int .i32 0) rfl
        have hd0 := (blk_cell hz0d 0).trans rfl
        have hd1 := (blk_cell hz0d 1).trans rfl
        have hd2 := (blk_cell hz0d 2).trans rfl
        have hd3 := (blk_cell hz0d 3).trans rfl
        have hd4 := (blk_cell hz0d 4).trans rfl
        simp at hd0 hd1 hd2 hd3 hd4
        refine bodyPost_ret (v := .tuple #[.agg #[.int .i64 0, .int .i64 0, .int .i64 0, .int .i64 0, .int .i32 0], .bool false]) (by simp [results, Tryd.f15, go_sem, hd0, hd1, hd2, hd3, hd4]) rfl ?_
        refine ⟨HRV.out.symm.trans (by first | rfl | simp | (simp [hz0]; done)) |>.symm, ?_⟩
        repeat (refine below_set ?_ (by simp))
        exact below_step (by repeat (first | exact hBx | apply below_drew1)) hb
    · have HEC2 := Aside0.mk (HEC.out rfl)
      clear HEC
      go_wp2
      by_cases hecx : ec = x
      · subst hecx
        go_region_with (first | (go_at_call 27; (with_reducible refine (inst_Fit.calls _ _ _ _ _ true _ HF.out).mono ?_); rintro e_ w1 ⟨rfl, hb⟩; have hx0b := blk_below (by repeat (first | exact hx0 | apply blk_drew)) hb; have hz0a := blk_below (by repeat (first | exact hz0 | apply blk_drew)) hb; have hi0b := blk_below (by repeat (first | exact hi0 | apply blk_drew)) hb; have hx1b := blk_cell hx0b 0; have hi1b := blk_cell hi0b 0; have hi2b := blk_cell hi0b 1; have hi3b := blk_cell hi0b 2; have hi4b := blk_cell hi0b 3; have hi5b := blk_cell hi0b 4; simp only [List.getElem?_toArray, List.getElem?_cons_zero, List.getElem?_cons_succ] at hx1b hi1b hi2b hi3b hi4b hi5b) | (go_at_call 25; (with_reducible refine (inst_Encode.calls _ _ _ _ _ _ _ HEC2.out).mono ?_); rintro e_ w2 ⟨rfl, hb2⟩; have hx0c := blk_below (by repeat (first | exact hx0b | apply blk_drew)) hb2; have hi0c := blk_below (by repeat (first | exact hi0b | apply blk_drew)) hb2; have hz0b := blk_below (by repeat (first | exact hz0a | apply blk_drew)) hb2; have hx1c := blk_cell hx0c 0; have hi1c := blk_cell hi0c 0; have hi2c := blk_cell hi0c 1; have hi3c := blk_cell hi0c 2; have hi4c := blk_cell hi0c 3; have hi5c := blk_cell hi0c 4; simp only [List.getElem?_toArray, List.getElem?_cons_zero, List.getElem?_cons_succ] at hx1c hi1c hi2c hi3c hi4c hi5c))
        all_goals
          have hc0 := (blk_cell hz0b 0).trans rfl
          have hc1 := (blk_cell hz0b 1).trans rfl
          have hc2 := (blk_cell hz0b 2).trans rfl
          have hc3 := (blk_cell hz0b 3).trans rfl
          have hc4 := (blk_cell hz0b 4).trans rfl
          have hf0 := blk_frozen hz0b 0
          have hf1 := blk_frozen hz0b 1
          have hf2 := blk_frozen hz0b 2
          have hf3 := blk_frozen hz0b 3
          have hf4 := blk_frozen hz0b 4
          go_wp2
          have hsz := hBx.size
          have hz0d := blk_put (blk_put (blk_put (blk_put (blk_put (hz0b) 0 (.int .i64 (decOp ec)) rfl) 1 (.int .i64 (decA ec)) rfl) 2 (.int .i64 (decB ec)) rfl) 3 (.int .i64 (decC ec)) rfl) 4 (.int .i32 im) rfl
          have hd0 := (blk_cell hz0d 0).trans rfl
          have hd1 := (blk_cell hz0d 1).trans rfl
          have hd2 := (blk_cell hz0d 2).trans rfl
          have hd3 := (blk_cell hz0d 3).trans rfl
          have hd4 := (blk_cell hz0d 4).trans rfl
          simp at hd0 hd1 hd2 hd3 hd4
          refine bodyPost_ret (v := .tuple #[.agg #[.int .i64 (decOp ec), .int .i64 (decA ec), .int .i64 (decB ec), .int .i64 (decC ec), .int .i32 im], .bool true]) (by simp [results, Tryd.f15, go_sem, hd0, hd1, hd2, hd3, hd4]) rfl ?_
          refine ⟨by rw [← HRV.out]; simp, ?_⟩
          repeat (refine below_set ?_ (by simp))
          exact below_step (by repeat (first | exact below_step (by repeat (first | exact hBx | apply below_drew1)) hb | apply below_drew1)) hb2
      · have hdne : decide (ec = x) = false := decide_eq_false hecx
        go_region_with (first | (go_at_call 27; (with_reducible refine (inst_Fit.calls _ _ _ _ _ true _ HF.out).mono ?_); rintro e_ w1 ⟨rfl, hb⟩; have hx0b := blk_below (by repeat (first | exact hx0 | apply blk_drew)) hb; have hz0a := blk_below (by repeat (first | exact hz0 | apply blk_drew)) hb; have hi0b := blk_below (by repeat (first | exact hi0 | apply blk_drew)) hb; have hx1b := blk_cell hx0b 0; have hi1b := blk_cell hi0b 0; have hi2b := blk_cell hi0b 1; have hi3b := blk_cell hi0b 2; have hi4b := blk_cell hi0b 3; have hi5b := blk_cell hi0b 4; simp only [List.getElem?_toArray, List.getElem?_cons_zero, List.getElem?_cons_succ] at hx1b hi1b hi2b hi3b hi4b hi5b) | (go_at_call 25; (with_reducible refine (inst_Encode.calls _ _ _ _ _ _ _ HEC2.out).mono ?_); rintro e_ w2 ⟨rfl, hb2⟩; have hx0c := blk_below (by repeat (first | exact hx0b | apply blk_drew)) hb2; have hi0c := blk_below (by repeat (first | exact hi0b | apply blk_drew)) hb2; have hz0b := blk_below (by repeat (first | exact hz0a | apply blk_drew)) hb2; have hx1c := blk_cell hx0c 0; have hi1c := blk_cell hi0c 0; have hi2c := blk_cell hi0c 1; have hi3c := blk_cell hi0c 2; have hi4c := blk_cell hi0c 3; have hi5c := blk_cell hi0c 4; simp only [List.getElem?_toArray, List.getElem?_cons_zero, List.getElem?_cons_succ] at hx1c hi1c hi2c hi3c hi4c hi5c))
        all_goals
          have hc0 := (blk_cell hz0b 0).trans rfl
          have hc1 := (blk_cell hz0b 1).trans rfl
          have hc2 := (blk_cell hz0b 2).trans rfl
          have hc3 := (blk_cell hz0b 3).trans rfl
          have hc4 := (blk_cell hz0b 4).trans rfl
          have hf0 := blk_frozen hz0b 0
          have hf1 := blk_frozen hz0b 1
          have hf2 := blk_frozen hz0b 2
          have hf3 := blk_frozen hz0b 3
          have hf4 := blk_frozen hz0b 4
          go_wp2
          have hsz := hBx.size
          have hz0d := blk_put (blk_put (blk_put (blk_put (blk_put (hz0b) 0 (.int .i64 0) rfl) 1 (.int .i64 0) rfl) 2 (.int .i64 0) rfl) 3 (.int .i64 0) rfl) 4 (.int .i32 0) rfl
          have hd0 := (blk_cell hz0d 0).trans rfl
          have hd1 := (blk_cell hz0d 1).trans rfl
          have hd2 := (blk_cell hz0d 2).trans rfl
          have hd3 := (blk_cell hz0d 3).trans rfl
          have hd4 := (blk_cell hz0d 4).trans rfl
          simp at hd0 hd1 hd2 hd3 hd4
          refine bodyPost_ret (v := .tuple #[.agg #[.int .i64 0, .int .i64 0, .int .i64 0, .int .i64 0, .int .i32 0], .bool false]) (by simp [results, Tryd.f15, go_sem, hd0, hd1, hd2, hd3, hd4]) rfl ?_
          refine ⟨by rw [← HRV.out]; simp [hecx], ?_⟩
          repeat (refine below_set ?_ (by simp))
          exact below_step (by repeat (first | exact below_step (by repeat (first | exact hBx | apply below_drew1)) hb | apply below_drew1)) hb2
end Go.Proofs.YtbelnkdbghggmaaDoor.X
