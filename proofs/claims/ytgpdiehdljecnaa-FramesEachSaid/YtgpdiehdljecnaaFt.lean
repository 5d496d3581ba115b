/- The contract of frames.Fit, which keeps what it has seen in a map: at each slice of frames that is read it returns whether they can be, and nothing that lay before the call has changed. -/
import Derived.Test.YtgpdiehdljecnaaIt
import Derived.Test.YtgpdiehdljecnaaMp
import Derived.BigQuiet
import Derived.Deep.RegionWith
namespace Go.Proofs.Ytgpdiehdljecnaa.X
open Go.RowKit Go.Shelf Go.Proofs.YtgpdiehdljecnaaW.PrintWords Go.Proofs.YtgpdiehdljecnaaW.PrintLast Go.Proofs.YtgpdiehdljecnaaW.PrintMore
set_option linter.unusedVariables false
set_option linter.unusedSimpArgs false

theorem s45_ext (a b : S45) : a = b ↔ (a.f0 = b.f0 ∧ a.f1 = b.f1) := by
  cases a
  cases b
  simp
instance s45_dec : DecidableEq S45 := fun a b => decidable_of_iff (a.f0 = b.f0 ∧ a.f1 = b.f1) (s45_ext a b).symm
abbrev enc45 (x : S45) : Value := .agg #[.int .u64 x.f0, .int .i64 x.f1]
theorem eqK45 (d : Nat) (w : World) (x0 y0 : Int) (x1 y1 : Int) :
    (Op.equalIn (d + 2) 45 (.agg #[.int .u64 x0, .int .i64 x1]) (.agg #[.int .u64 y0, .int .i64 y1])).run Try.prog w = .ok (x0 == y0 && (x1 == y1)) w := by
  refine eqA_of Try.underlying45 (by kernel_rfl) ?_
  refine eqf_cons (by rfl) (by go_simp; rfl) (by go_simp; rfl) (by go_simp) ?_
  exact eqf_last (by rfl) (by go_simp; rfl) (by go_simp; rfl) (by go_simp)
theorem checkK45 (d : Nat) (w : World) (e : Bool) (x0 x1 : Int) : (Instr.checkKey e (d + 2) 45 (.agg #[.int .u64 x0, .int .i64 x1])).run Try.prog w = .ok () w := by kernel_rfl
theorem key45 : Mp.Key Try.prog 45 enc45 where
  eq w a b := by
    have h := eqK45 9998 w a.f0 b.f0 a.f1 b.f1
    have e : (a.f0 == b.f0 && (a.f1 == b.f1)) = decide (a = b) := by
      rw [Bool.eq_iff_iff]
      simp [s45_ext]
    rw [e] at h
    exact h
  check w e a := checkK45 9998 w e a.f0 a.f1
  under := ⟨_, Try.underlying45, fun a b => .inl rfl⟩
  bits a := by simp [Instr.sameBits]

theorem zero4 (w : World) : (zeroValue 4).run Try.prog w = .ok (.bool false) w := by kernel_rfl
/-- Fit's look through the frames, with what has been seen. -/
def fitGo : List S45 → List (S45 × Bool) → Bool
  | [], _ => true
  | x :: r, m => if decide (0 ≤ x.f1 ∧ x.f1 ≤ 1048576) = false then false else if (x.f0 == 0 && x.f1 != 0) = true then false else if Mp.getL x false m = true then false else fitGo r (Mp.putL x (!(x.f0 == 0)) m)
def frames_Fit.f (l0 : List S45) : Option Bool := some (fitGo l0 [] && decide (l0.length ≤ 4096))
set_option maxHeartbeats 4000000 in
theorem Fit_any (A0 : Option Addr) (c0 : Nat) (l0 : List S45) (w : World) (hr0 : Kd.C k45 w A0 l0.length l0) :
    Calls Try.prog 16 #[.slice A0 l0.length c0] w fun e w' => e = .returned (.bool (fitGo l0 [] && decide (l0.length ≤ 4096))) ∧ Below w.heap.size w w' := by
  have hmax : l0.length ≤ 9223372036854775807 := hr0.2.1
  have hu45 := Try.underlying45
  have hmm := @run_makeMap Try.prog
  have HR0 := Aside0.mk hr0
  clear hr0
  go_enter Try.func16, Try.ntmps16
  go_wp2
  go_loopw [9] (fun i wr => ∃ (k : Nat) (m : List (S45 × Bool)), k ≤ l0.length ∧ i = .int .i64 k ∧ Mp.Is enc45 Value.bool wr w.heap.size m ∧ Aside0 (fitGo (l0.drop k) m = fitGo l0 []) ∧ Below w.heap.size w wr ∧ w.heap.size < wr.heap.size) (fun i _ => l0.length - (intOf i).toNat)
  case atStart => exact ⟨0, [], Nat.zero_le _, rfl, Mp.Is.mk_new w, ⟨rfl⟩, (Below.refl _ w).alloc (Nat.le_refl _) _, by simp⟩
  case round =>
    obtain ⟨k, m, hk, rfl, hm, HF, hB, hsz⟩ := hrel
    by_cases hlt : k < l0.length
    · have hrW : Kd.C k45 wr A0 l0.length l0 := Kd.C_below HR0.out hB
      obtain ⟨ad, e1, hx0, hx1⟩ := at_T45 hrW (k : Int) (by omega) (by omega)
      cases e1
      simp only [Int.toNat_natCast] at hx0 hx1
      generalize hx : rd_T45 l0 (k : Int) = x at hx0 hx1
      have hdrop : l0.drop k = x :: l0.drop (k + 1) := by
        rw [List.drop_eq_getElem_cons hlt]
        congr 1
        rw [← hx]
        simp [rd_T45, List.getD_eq_getElem?_getD, hlt]
      have HF2 := HF.out
      rw [hdrop, fitGo] at HF2
      clear hx hdrop HF hrW
      have hm1 := hm.step (W' := wr.alloc (.cells #[.int .u64 x.f0, .int .i64 x.f1] 45)) ((Below.refl wr.heap.size wr).alloc (Nat.le_refl _) _ |>.block _ hm.lt)
      have hb1 : Below wr.heap.size wr (wr.alloc (.cells #[.int .u64 x.f0, .int .i64 x.f1] 45)) := (Below.refl _ wr).alloc (Nat.le_refl _) _
      generalize hpb : decide (0 ≤ x.f1 ∧ x.f1 ≤ 1048576) = pb at HF2
      have hpg := paged_any x.f1 pb hpb
      cases pb with
      | false =>
        rw [if_pos rfl] at HF2
        have HF := Aside0.mk HF2
        clear HF2 hpb
        go_wp2_with (go_at_call 25; refine (hpg _).mono ?_; rintro e w2 ⟨rfl, hb⟩)
        go_ret
        exact ⟨by rw [← HF.out]; rfl, hB.trans ((hb1.trans (hb.mono (by simp))).mono (by omega))⟩
      | true =>
        rw [if_neg (by simp)] at HF2
        have hfree := fun W => free_any x.f0 x.f1 W
        generalize hfr : (x.f0 == 0) = fr at HF2 hfree
        have HFR := Lib.hid hfr
        generalize hpz : (x.f1 != 0) = pz at HF2
        have hpz2 : (x.f1 == 0) = !pz := by rw [← hpz]; unfold bne; rw [Bool.not_not]
        generalize hsn' : Mp.getL x false m = sn at HF2
        have HSN := Lib.hid hsn'
        clear hpb hfr hsn'
        cases fr with
        | true =>
          cases pz with
          | true =>
            rw [if_pos (show (true && true) = true from rfl)] at HF2
            have HF := Aside0.mk HF2
            clear HF2
            go_wp2_with (first | (go_at_call 25; refine (hpg _).mono ?_; rintro e w2 ⟨rfl, hb⟩; have hy0 := (hb.cell (p := ⟨wr.heap.size, 0, none⟩) (by simp)).trans (new_cell wr #[.int .u64 x.f0, .int .i64 x.f1] 45 0); have hy1 := (hb.cell (p := ⟨wr.heap.size, 1, none⟩) (by simp)).trans (new_cell wr #[.int .u64 x.f0, .int .i64 x.f1] 45 1); have hm2 := Aside0.mk (hm1.below hb); have hB2 := Aside0.mk (hb1.trans (hb.mono (by simp))); have hs2 := hb.size; rw [World.size_alloc] at hs2; simp only [List.getElem?_toArray, List.getElem?_cons_zero, List.getElem?_cons_succ] at hy0 hy1; clear hb) | (go_at_call 28; refine (hfree _).mono ?_; rintro e w3 ⟨rfl, hb⟩; have hz1 := (hb.cell (p := ⟨wr.heap.size, 1, none⟩) (by dsimp only; omega)).trans hy1))
            go_ret
            exact ⟨by rw [← HF.out]; rfl, hB.trans ((hB2.out.trans (hb.mono (by omega))).mono (by omega))⟩
          | false =>
            rw [if_neg (by simp)] at HF2
            cases sn with
            | true =>
              rw [if_pos rfl] at HF2
              have HF := Aside0.mk HF2
              clear HF2
              go_wp2_with (first | (go_at_call 25; refine (hpg _).mono ?_; rintro e w2 ⟨rfl, hb⟩; have hy0 := (hb.cell (p := ⟨wr.heap.size, 0, none⟩) (by simp)).trans (new_cell wr #[.int .u64 x.f0, .int .i64 x.f1] 45 0); have hy1 := (hb.cell (p := ⟨wr.heap.size, 1, none⟩) (by simp)).trans (new_cell wr #[.int .u64 x.f0, .int .i64 x.f1] 45 1); have hm2 := Aside0.mk (hm1.below hb); have hB2 := Aside0.mk (hb1.trans (hb.mono (by simp))); have hs2 := hb.size; rw [World.size_alloc] at hs2; simp only [List.getElem?_toArray, List.getElem?_cons_zero, List.getElem?_cons_succ] at hy0 hy1; clear hb) | (go_at_call 28; refine (hfree _).mono ?_; rintro e w3 ⟨rfl, hb⟩; have hz0 := (hb.cell (p := ⟨wr.heap.size, 0, none⟩) (by dsimp only; omega)).trans hy0; have hz1 := (hb.cell (p := ⟨wr.heap.size, 1, none⟩) (by dsimp only; omega)).trans hy1; have hm3 := Aside0.mk (hm2.out.below hb); have hB3 := Aside0.mk (hB2.out.trans (hb.mono (by omega))); have hs3 := hb.size; have hlk := Mp.lookup_run Try.underlying62 key45 (z := false) zero4 hm3.out x; rw [HSN.out] at hlk; clear hb hy0 hy1))
              go_ret
              exact ⟨by rw [← HF.out]; rfl, hB.trans (hB3.out.mono (by omega))⟩
            | false =>
              rw [if_neg (by simp)] at HF2
              have HF := Aside0.mk HF2
              clear HF2
              go_wp2_with (first | (go_at_call 25; refine (hpg _).mono ?_; rintro e w2 ⟨rfl, hb⟩; have hy0 := (hb.cell (p := ⟨wr.heap.size, 0, none⟩) (by simp)).trans (new_cell wr #[.int .u64 x.f0, .int .i64 x.f1] 45 0); have hy1 := (hb.cell (p := ⟨wr.heap.size, 1, none⟩) (by simp)).trans (new_cell wr #[.int .u64 x.f0, .int .i64 x.f1] 45 1); have hm2 := Aside0.mk (hm1.below hb); have hB2 := Aside0.mk (hb1.trans (hb.mono (by simp))); have hs2 := hb.size; rw [World.size_alloc] at hs2; simp only [List.getElem?_toArray, List.getElem?_cons_zero, List.getElem?_cons_succ] at hy0 hy1; clear hb) | (go_at_call 28; refine (hfree _).mono ?_; rintro e w3 ⟨rfl, hb⟩; have hz0 := (hb.cell (p := ⟨wr.heap.size, 0, none⟩) (by dsimp only; omega)).trans hy0; have hz1 := (hb.cell (p := ⟨wr.heap.size, 1, none⟩) (by dsimp only; omega)).trans hy1; have hm3 := Aside0.mk (hm2.out.below hb); have hB3 := Aside0.mk (hB2.out.trans (hb.mono (by omega))); have hs3 := hb.size; have hlk := Mp.lookup_run Try.underlying62 key45 (z := false) zero4 hm3.out x; rw [HSN.out] at hlk; clear hb hy0 hy1))
              clear hlk
              go_region_with (go_at_call 28; refine (hfree _).mono ?_; rintro e w4 ⟨rfl, hb⟩; replace hb : Below w3.heap.size w3 w4 := ((Below.refl w3.heap.size w3).drew).trans hb; have hzz0 := (hb.cell (p := ⟨wr.heap.size, 0, none⟩) (by dsimp only; omega)).trans hz0; have hzz1 := (hb.cell (p := ⟨wr.heap.size, 1, none⟩) (by dsimp only; omega)).trans hz1; obtain ⟨es5, ck5, hmu, hm5⟩ := Mp.mapUpdate_run Try.underlying62 key45 (hm3.out.below hb) x false; have HM5 := Aside0.mk hm5; have HB5 := Aside0.mk (hB3.out.trans (hb.mono (by omega))); clear hm5 hb)
              all_goals go_wp2
              all_goals go_roundw
              all_goals try
                case rel =>
                  refine ⟨k + 1, Mp.putL x false m, by omega, by go_num, HM5.out, ⟨HF.out⟩, ?_, ?_⟩
                  · exact (hB.trans (HB5.out.mono (by omega))).grown (grownBy_putObj' _ _ _) (by have := HB5.out.size; omega) (fun k e => by cases e; omega)
                  · have := HB5.out.size
                    simp
                    omega
              all_goals (have e1 : (intOf (Value.int IntKind.i64 ((k : Int) + 1))).toNat = k + 1 := by simp [intOf])
              all_goals (have e2 : (intOf (Value.int IntKind.i64 (k : Int))).toNat = k := by simp [intOf])
              all_goals (rw [e1, e2]; omega)
        | false =>
          rw [if_neg (by simp)] at HF2
          cases sn with
          | true =>
            rw [if_pos rfl] at HF2
            have HF := Aside0.mk HF2
            clear HF2
            go_wp2_with (first | (go_at_call 25; refine (hpg _).mono ?_; rintro e w2 ⟨rfl, hb⟩; have hy0 := (hb.cell (p := ⟨wr.heap.size, 0, none⟩) (by simp)).trans (new_cell wr #[.int .u64 x.f0, .int .i64 x.f1] 45 0); have hy1 := (hb.cell (p := ⟨wr.heap.size, 1, none⟩) (by simp)).trans (new_cell wr #[.int .u64 x.f0, .int .i64 x.f1] 45 1); have hm2 := Aside0.mk (hm1.below hb); have hB2 := Aside0.mk (hb1.trans (hb.mono (by simp))); have hs2 := hb.size; rw [World.size_alloc] at hs2; simp only [List.getElem?_toArray, List.getElem?_cons_zero, List.getElem?_cons_succ] at hy0 hy1; clear hb) | (go_at_call 28; refine (hfree _).mono ?_; rintro e w3 ⟨rfl, hb⟩; have hz0 := (hb.cell (p := ⟨wr.heap.size, 0, none⟩) (by dsimp only; omega)).trans hy0; have hz1 := (hb.cell (p := ⟨wr.heap.size, 1, none⟩) (by dsimp only; omega)).trans hy1; have hm3 := Aside0.mk (hm2.out.below hb); have hB3 := Aside0.mk (hB2.out.trans (hb.mono (by omega))); have hs3 := hb.size; have hlk := Mp.lookup_run Try.underlying62 key45 (z := false) zero4 hm3.out x; rw [HSN.out] at hlk; clear hb hy0 hy1))
            go_ret
            exact ⟨by rw [← HF.out]; rfl, hB.trans (hB3.out.mono (by omega))⟩
          | false =>
            rw [if_neg (by simp)] at HF2
            have HF := Aside0.mk HF2
            clear HF2
            go_wp2_with (first | (go_at_call 25; refine (hpg _).mono ?_; rintro e w2 ⟨rfl, hb⟩; have hy0 := (hb.cell (p := ⟨wr.heap.size, 0, none⟩) (by simp)).trans (new_cell wr #[.int .u64 x.f0, .int .i64 x.f1] 45 0); have hy1 := (hb.cell (p := ⟨wr.heap.size, 1, none⟩) (by simp)).trans (new_cell wr #[.int .u64 x.f0, .int .i64 x.f1] 45 1); have hm2 := Aside0.mk (hm1.below hb); have hB2 := Aside0.mk (hb1.trans (hb.mono (by simp))); have hs2 := hb.size; rw [World.size_alloc] at hs2; simp only [List.getElem?_toArray, List.getElem?_cons_zero, List.getElem?_cons_succ] at hy0 hy1; clear hb) | (go_at_call 28; refine (hfree _).mono ?_; rintro e w3 ⟨rfl, hb⟩; have hz0 := (hb.cell (p := ⟨wr.heap.size, 0, none⟩) (by dsimp only; omega)).trans hy0; have hz1 := (hb.cell (p := ⟨wr.heap.size, 1, none⟩) (by dsimp only; omega)).trans hy1; have hm3 := Aside0.mk (hm2.out.below hb); have hB3 := Aside0.mk (hB2.out.trans (hb.mono (by omega))); have hs3 := hb.size; have hlk := Mp.lookup_run Try.underlying62 key45 (z := false) zero4 hm3.out x; rw [HSN.out] at hlk; clear hb hy0 hy1))
            clear hlk
            go_region_with (go_at_call 28; refine (hfree _).mono ?_; rintro e w4 ⟨rfl, hb⟩; replace hb : Below w3.heap.size w3 w4 := ((Below.refl w3.heap.size w3).drew).trans hb; have hzz0 := (hb.cell (p := ⟨wr.heap.size, 0, none⟩) (by dsimp only; omega)).trans hz0; have hzz1 := (hb.cell (p := ⟨wr.heap.size, 1, none⟩) (by dsimp only; omega)).trans hz1; obtain ⟨es5, ck5, hmu, hm5⟩ := Mp.mapUpdate_run Try.underlying62 key45 (hm3.out.below hb) x true; have HM5 := Aside0.mk hm5; have HB5 := Aside0.mk (hB3.out.trans (hb.mono (by omega))); clear hm5 hb)
            all_goals go_wp2
            all_goals go_roundw
            all_goals try
              case rel =>
                refine ⟨k + 1, Mp.putL x true m, by omega, by go_num, HM5.out, ⟨HF.out⟩, ?_, ?_⟩
                · exact (hB.trans (HB5.out.mono (by omega))).grown (grownBy_putObj' _ _ _) (by have := HB5.out.size; omega) (fun k e => by cases e; omega)
                · have := HB5.out.size
                  simp
                  omega
            all_goals (have e1 : (intOf (Value.int IntKind.i64 ((k : Int) + 1))).toNat = k + 1 := by simp [intOf])
            all_goals (have e2 : (intOf (Value.int IntKind.i64 (k : Int))).toNat = k := by simp [intOf])
            all_goals (rw [e1, e2]; omega)
    · obtain rfl : k = l0.length := by omega
      go_wp2
      go_ret
      have := HF.out
      rw [List.drop_length] at this
      exact ⟨by rw [← this]; simp [fitGo]; omega, hB⟩

theorem frames_Fit.calls (A0 : Option Addr) (c0 : Nat) (l0 : List S45) (r : Bool) (w : World) (hr0 : Kd.C k45 w A0 l0.length l0) (hc0 : l0.length ≤ c0) (h : frames_Fit.f l0 = some r) :
    Calls Try.prog 16 #[.slice A0 l0.length c0] w fun e w' => e = .returned (.bool r) ∧ Below w.heap.size w w' := by
  rw [← Option.some.inj h]
  exact Fit_any A0 c0 l0 w hr0
end Go.Proofs.Ytgpdiehdljecnaa.X
