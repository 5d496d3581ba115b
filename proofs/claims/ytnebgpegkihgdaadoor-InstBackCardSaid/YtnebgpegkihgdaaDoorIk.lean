/- The walk of InstFields: wherever a word's parts are its instruction's, it comes to true. -/
import Derived.Test.YtnebgpegkihgdaaDoorXx5
import Derived.Test.YtnebgpegkihgdaaDoorXx1
import Derived.Test.YtnebgpegkihgdaaDoorMp
namespace Go.Proofs.YtnebgpegkihgdaaDoor.X
open Go.RowKit Go.Proofs.YtnebgpegkihgdaaDoorW.PrintWords Go.Proofs.YtnebgpegkihgdaaDoorW.PrintLast Go.Proofs.YtnebgpegkihgdaaDoorW.PrintMore
set_option linter.unusedVariables false
set_option linter.unusedSimpArgs false
abbrev enc5 (x : Int) : Value := .int .u8 x
theorem key5 : Mp.Key Tryd.prog 5 enc5 where
  eq w a b := by
    have e : (a == b) = decide (a = b) := by rw [Bool.eq_iff_iff]; simp
    rw [← e]
    show (Op.equalIn (9999 + 1) 5 (.int .u8 a) (.int .u8 b)).run Tryd.prog w = .ok (a == b) w
    rw [Op.equalIn.eq_def]
    simp only [run_underlying Tryd.underlying5, Sem.run_bind, Result.andThen_ok]
    rw [if_pos trivial]
    rfl
  check w e a := by kernel_rfl
  under := ⟨_, Tryd.underlying5, fun a b => by simp [Instr.sameNow]; rw [Bool.eq_iff_iff]; simp⟩
  bits a := by simp [Instr.sameBits]
theorem zero4 (w : World) : (zeroValue 4).run Tryd.prog w = .ok (.bool false) w := by kernel_rfl
/-- A shape's first letters, each once. -/
def letters : List UInt8 → List (Int × Bool) → List (Int × Bool)
  | [], m => m
  | c :: r, m => letters r (Mp.putL (c.toNat : Int) true m)
set_option maxRecDepth 100000 in
set_option maxHeartbeats 8000000 in
theorem InstFields_no (x : Int) (hd : inst_Decode.f x = some (0, 0, 0, 0, 0, false)) (haw : curtilagelaw08_awake.f = some true) (w : World) (ht : Tab w) :
    Calls Tryd.prog 5 #[.int .u64 x] w fun e w' => e = .returned (.bool true) ∧ Below w.heap.size w w' := by
  have HD := Aside0.mk hd
  have HA := Aside0.mk haw
  have HT := Aside0.mk ht
  have heq := fun W => eqA23 9998 W 0 0 0 0 0 0 0 0 0 0
  have hu23 := Tryd.underlying23
  clear hd haw ht
  go_enter Tryd.func5, Tryd.ntmps5
  go_wp2_with (first | (go_at_call 6; (with_reducible refine (inst_Decode.calls _ _ _ _ _ _ _ _ HD.out).mono ?_); rintro e_ w1 ⟨rfl, hb⟩) | (go_at_call 16; (with_reducible refine (curtilagelaw08_awake.calls true _ (tab_mono HT.out (by repeat (first | exact below_step (Below.refl _ _) hb | apply below_alloc | apply below_drew1 | apply pw_below_drewN))) HA.out).mono ?_); rintro e_ w2 ⟨rfl, hb2⟩))
  go_ret
  exact ⟨rfl, below_step (by repeat (first | exact below_step (Below.refl _ _) hb | apply below_alloc | apply below_drew1 | apply pw_below_drewN)) hb2⟩
theorem below_putObj {n : Nat} {w W : World} (h : Below n w W) (l : Nat) (o : Obj) (hl : n ≤ l) : Below n w (W.putObj l o) :=
  ⟨h.os, h.tape, h.output, by simpa [World.putObj] using h.size, fun i hi => (World.putObj_heap_other (by omega)).trans (h.block i hi)⟩
theorem k5n {a b : Int} (h : a = b) : (a != b) = false := by simp [h]
set_option maxRecDepth 100000 in
set_option maxHeartbeats 8000000 in
theorem InstFields_yes (x op a b c e : Int) (hd : inst_Decode.f x = some (op, a, b, c, e, true)) (haw : curtilagelaw08_awake.f = some true) (w : World) (ht : Tab w) (s : ByteArray) (hs : shapeOf op = s) (hs3 : s.size ≤ 3)
    (h0 : (op != wrap64 (Go.bits .and .u64 x 255)) = false) (h1 : (a != wrap64 (Go.bits .and .u64 (x / 256) 15)) = false) (h2 : (b != wrap64 (Go.bits .and .u64 (x / 4096) 15)) = false) (h3 : (c != wrap64 (Go.bits .and .u64 (x / 65536) 15)) = false)
    (h4 : (e % 4294967296 != x / 4294967296 % 4294967296) = false) (h5 : (Go.bits .and .u64 (x / 1048576) 4095 != 0) = false) (m : List (Int × Bool)) (hm : letters s.data.toList [] = m)
    (ha : Mp.getL 97 false m = true ∨ a = 0) (hb : Mp.getL 98 false m = true ∨ b = 0) (hc : Mp.getL 99 false m = true ∨ c = 0) (hi : Mp.getL 105 false m = true ∨ e = 0) (hop : op < 26) :
    Calls Tryd.prog 5 #[.int .u64 x] w fun e w' => e = .returned (.bool true) ∧ Below w.heap.size w w' := by
  have HD := Aside0.mk hd
  have HA := Aside0.mk haw
  have HT := Aside0.mk ht
  have HS := Aside0.mk (show inst_Shape.f op = some s by unfold inst_Shape.f; rw [hs])
  have HM := Aside0.mk hm
  have Ha := Aside0.mk ha
  have Hb := Aside0.mk hb
  have Hc := Aside0.mk hc
  have Hi := Aside0.mk hi
  have HOP := Aside0.mk hop
  have hu23 := Tryd.underlying23
  have hmm := @run_makeMap Tryd.prog
  clear hd haw ht hs hm ha hb hc hi hop
  go_enter Tryd.func5, Tryd.ntmps5
  go_wp2_with (first | (go_at_call 6; (with_reducible refine (inst_Decode.calls _ _ _ _ _ _ _ _ HD.out).mono ?_); rintro e_ w1 ⟨rfl, hb⟩) | (go_at_call 14; (with_reducible refine (inst_Shape.calls _ _ _ HS.out).mono ?_); rintro e_ w2 ⟨rfl, hb2⟩))
  have hI2 : w2.heap[w1.heap.size]? = some (.cells #[.int .i64 op, .int .i64 a, .int .i64 b, .int .i64 c, .int .i32 e] 23 (0, 0)) := blk_below (blk_alloc (blk_new w1 _) _) hb2
  have hM2 : Mp.Is enc5 Value.bool w2 (w1.heap.size + 1) [] := by
    have h := (Mp.Is.mk_new (K := Int) (E := Bool) (encK := enc5) (encE := Value.bool) (w1.alloc (.cells #[.int .i64 op, .int .i64 a, .int .i64 b, .int .i64 c, .int .i32 e] 23))).below hb2
    rw [World.size_alloc] at h
    exact h
  have hB2 : Below w.heap.size w w2 := below_step (below_alloc (below_alloc hb _) _) hb2
  have hlt : w.heap.size ≤ w1.heap.size := hb.size
  have hm0 : Aside0 (letters (s.data.toList.drop 0) [] = m) := ⟨HM.out⟩
  have HI2 := Aside0.mk hI2
  have HM2 := Aside0.mk hM2
  have HB2 := Aside0.mk hB2
  have HB := Aside0.mk hb
  clear hI2 hM2 hB2 hb hb2 h0 h1 h2 h3 h4 h5
  go_loopw [75] (fun i wr => ∃ (k : Nat) (m' : List (Int × Bool)), k ≤ s.size ∧ i = .int .i64 k ∧ Aside0 (Mp.Is enc5 Value.bool wr (w1.heap.size + 1) m') ∧ Aside0 (letters (s.data.toList.drop k) m' = m) ∧ Aside0 (wr.heap[w1.heap.size]? = some (.cells #[.int .i64 op, .int .i64 a, .int .i64 b, .int .i64 c, .int .i32 e] 23 (0, 0))) ∧ Aside0 (Below w.heap.size w wr)) (fun i _ => s.size - (intOf i).toNat)
  case atStart => exact ⟨0, [], Nat.zero_le _, rfl, HM2, hm0, HI2, HB2⟩
  case round =>
    obtain ⟨k, m', hk, rfl, hM, hL, hI, hB⟩ := hrel
    by_cases hlt2 : k < s.size
    · have hls : letters (s.data.toList.drop (k + 1)) (Mp.putL (s[k].toNat : Int) true m') = m := by
        have hdr : s.data.toList.drop k = s[k] :: s.data.toList.drop (k + 1) := List.drop_eq_getElem_cons (by simpa using hlt2)
        rw [← hL.out, hdr]
        rfl
      obtain ⟨es5, ck5, hmu, hm5⟩ := Mp.mapUpdate_run Tryd.underlying36 key5 hM.out (s[k].toNat : Int) true
      have HLS := Aside0.mk hls
      have HM5 := Aside0.mk hm5
      clear hls hm5 hL
      go_wp2
      go_roundw
      case rel =>
        refine ⟨k + 1, _, by omega, by go_num, HM5, HLS, ⟨?_⟩, ⟨?_⟩⟩
        · exact (World.putObj_heap_other (by omega)).trans hI.out
        · exact below_putObj hB.out _ _ (by omega)
      case measure => simp [intOf]; omega
    · obtain rfl : k = s.size := by omega
      have hmm : m' = m := by rw [← hL.out, List.drop_eq_nil_of_le (by simp)]; rfl
      subst hmm
      have hix := blk_cell hI.out
      have hi0 := hix 0
      have hi1 := hix 1
      have hi2 := hix 2
      have hi3 := hix 3
      have hi4 := hix 4
      simp only [List.getElem?_toArray, List.getElem?_cons_zero, List.getElem?_cons_succ] at hi0 hi1 hi2 hi3 hi4
      have l97 := Mp.lookup_run Tryd.underlying36 key5 zero4 hM.out 97
      have l98 := Mp.lookup_run Tryd.underlying36 key5 zero4 hM.out 98
      have l99 := Mp.lookup_run Tryd.underlying36 key5 zero4 hM.out 99
      have l105 := Mp.lookup_run Tryd.underlying36 key5 zero4 hM.out 105
      have ha := Ha.out
      have hb := Hb.out
      have hc := Hc.out
      have hi := Hi.out
      have hop := HOP.out
      clear hix Ha Hb Hc Hi HOP hM hI HI2 HM2 HB2 hm0 hL HM
      generalize Mp.getL 97 false m' = ua at *
      generalize Mp.getL 98 false m' = ub at *
      generalize Mp.getL 99 false m' = uc at *
      generalize Mp.getL 105 false m' = ui at *
      have haz : ua = false → (a == 0) = true := fun h => by rcases ha with ha | ha <;> simp_all
      have hbz : ub = false → (b == 0) = true := fun h => by rcases hb with hb | hb <;> simp_all
      have hcz : uc = false → (c == 0) = true := fun h => by rcases hc with hc | hc <;> simp_all
      have hiz : ui = false → (e == 0) = true := fun h => by rcases hi with hi | hi <;> simp_all
      clear ha hb hc hi
      cases ua <;> cases ub <;> cases uc <;> cases ui
      all_goals
        first | replace haz := haz rfl | clear haz
        first | replace hbz := hbz rfl | clear hbz
        first | replace hcz := hcz rfl | clear hcz
        first | replace hiz := hiz rfl | clear hiz
        go_wp2_with ((go_at_call 16; (with_reducible refine (curtilagelaw08_awake.calls true _ (tab_mono HT.out (by repeat (first | exact hB.out | apply below_drew1 | apply pw_below_drewN))) HA.out).mono ?_); rintro e_ w9 ⟨rfl, hb9⟩))
        go_ret
        exact ⟨rfl, below_step (by repeat (first | exact hB.out | apply below_drew1 | apply pw_below_drewN)) hb9⟩
end Go.Proofs.YtnebgpegkihgdaaDoor.X
