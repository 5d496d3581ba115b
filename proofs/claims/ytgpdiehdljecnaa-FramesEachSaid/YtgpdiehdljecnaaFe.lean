/- Walk of FramesEach: at each number and each row of takers the call answers true and leaves what it read as it was; no condition. -/
import Derived.Test.YtgpdiehdljecnaaPuFramesEach
import Derived.Test.YtgpdiehdljecnaaOp
import Derived.Deep.CutBlock
import Derived.RegionTactic
namespace Go.Proofs.Ytgpdiehdljecnaa.X
open Go.RowKit Go.Proofs.YtgpdiehdljecnaaW.PrintWords Go.Proofs.YtgpdiehdljecnaaW.PrintLast Go.Proofs.YtgpdiehdljecnaaW.PrintMore
set_option linter.unusedVariables false
set_option linter.unusedSimpArgs false
/-- The table of what takers hold, as it lies in memory. -/
def AtIs (W : World) (b : Nat) (t : List Int) : Prop := W.heap[b]? = some (.cells (t.map (Value.int .i64)).toArray 29 (0, 0)) ∧ t.length = 16
theorem AtIs.cell {W : World} {b : Nat} {t : List Int} (h : AtIs W b t) (j : Nat) (hj : j < 16) : W.cell? ⟨b, j, none⟩ = some (.int .i64 (t.getD j 0)) := by
  rw [blk_cell h.1 j]
  have hl := h.2
  rw [List.getElem?_toArray, List.getElem?_map, List.getElem?_eq_getElem (by omega : j < t.length)]
  simp [List.getD_eq_getElem?_getD, List.getElem?_eq_getElem (by omega : j < t.length)]
theorem AtIs.froz {W : World} {b : Nat} {t : List Int} (h : AtIs W b t) (j : Nat) : W.frozen? ⟨b, j, none⟩ = false := blk_frozen h.1 j
theorem AtIs.set {W : World} {b : Nat} {t : List Int} (h : AtIs W b t) (j : Nat) (x : Int) : AtIs (W.setCell ⟨b, j, none⟩ (.int .i64 x)) b (t.set j x) := by
  refine ⟨blk_put h.1 j _ ?_, by rw [List.length_set]; exact h.2⟩
  rw [List.setIfInBounds_toArray, List.map_set]
/-- The table, the frames and all that lay before. -/
structure St (w W : World) (b : Nat) (v : Value) (l : List S45) (t : List Int) : Prop where
  at_ : AtIs W b t
  row : Kd.V k45 45 W 0 (fun k => k ≠ b) v l
  bel : Below w.heap.size w W
  hb : w.heap.size ≤ b
theorem St.set {w W : World} {b : Nat} {v : Value} {l : List S45} {t : List Int} (h : St w W b v l t) (j : Nat) (x : Int) : St w (W.setCell ⟨b, j, none⟩ (.int .i64 x)) b v l (t.set j x) :=
  ⟨h.at_.set j x, Kd.V_far h.row (fun k hk => hk) _, h.bel.setCell (p := ⟨b, j, none⟩) h.hb _, h.hb⟩
theorem St.below {w W W' : World} {b : Nat} {v : Value} {l : List S45} {t : List Int} (h : St w W b v l t) (hb : Below W.heap.size W W') : St w W' b v l t :=
  ⟨⟨(hb.block b (Array.getElem?_eq_some_iff.1 h.at_.1).1).trans h.at_.1, h.at_.2⟩, Kd.V_below h.row hb, below_step h.bel hb, h.hb⟩
theorem cutT_eq (t : List Int) (o : Nat) : (((t.set (o * 4) (-1)).set (o * 4 + 1) (-1)).set (o * 4 + 2) (-1)).set (o * 4 + 3) (-1) = cutT t o := by
  unfold cutT
  rw [Nat.mul_comm]
theorem drop_row {w W W2 : World} {b : Nat} {v v2 : Value} {l l' : List S45} {t : List Int} (h : St w W b v l t) (hb : Below W.heap.size W W2) (hR : Kd.R k45 45 W2 W.heap.size (fun _ => True) v2 l') : St w W2 b v2 l' t :=
  ⟨(h.below hb).at_, Kd.V_mono (Kd.R_V (Kd.R_bound hR)) (fun k hk => by
    have hlt := (Array.getElem?_eq_some_iff.1 h.at_.1).1
    have := hk.2.1
    omega), (h.below hb).bel, h.hb⟩
/-- What each holds, up to a taker. -/
def sumTo (hl : Nat → Nat) : Nat → Nat
  | 0 => 0
  | i + 1 => sumTo hl i + hl i
theorem Inv.sums {n : Nat} {l : List S45} {t : List Int} (hI : Inv n l t) : ∃ (hl : Nat → Nat) (f : Nat), (∀ i : Nat, i < 4 → frames_Held.f l ((i : Int) + 1) = some (hl i : Int)) ∧ frames_Free.f l = some (f : Int) ∧ sumTo hl 4 + f = n := by
  obtain ⟨h1, h2, h3, h4, f, e1, e2, e3, e4, e5, hs⟩ := hI.held
  refine ⟨fun i => [h1, h2, h3, h4].getD i 0, f, ?_, e5, (show 0 + h1 + h2 + h3 + h4 + f = n by omega)⟩
  · intro i hi
    have : i = 0 ∨ i = 1 ∨ i = 2 ∨ i = 3 := by omega
    rcases this with rfl | rfl | rfl | rfl
    · exact e1
    · exact e2
    · exact e3
    · exact e4
theorem sumTo_le (hl : Nat → Nat) (fr n : Nat) (hs : sumTo hl 4 + fr = n) (hn : n ≤ 39) (q : Nat) (hq : q < 4) : sumTo hl q + hl q ≤ 39 := by
  have : q = 0 ∨ q = 1 ∨ q = 2 ∨ q = 3 := by omega
  simp only [sumTo] at hs
  rcases this with rfl | rfl | rfl | rfl <;> simp only [sumTo] <;> omega
theorem AtIs.read {W : World} {b : Nat} {t : List Int} (h : AtIs W b t) (q j : Nat) (hq : q < 4) (hj : j < 4) : ∃ v : Int, t[4 * q + j]? = some v ∧ W.cell? ⟨b, q * 4 + j, none⟩ = some (.int .i64 v) := by
  have hl := h.2
  refine ⟨t[4 * q + j]'(by omega), List.getElem?_eq_getElem _, ?_⟩
  rw [h.cell (q * 4 + j) (by omega), List.getD_eq_getElem?_getD, show q * 4 + j = 4 * q + j by omega, List.getElem?_eq_getElem (by omega)]
  rfl
theorem index28_0 (a b c d : Int) (W : World) : (Instr.index 28 (.agg #[.int .i64 a, .int .i64 b, .int .i64 c, .int .i64 d]) (.int .i64 0)).run Try.prog W = .ok (.int .i64 a) W := by kernel_rfl
theorem index28_1 (a b c d : Int) (W : World) : (Instr.index 28 (.agg #[.int .i64 a, .int .i64 b, .int .i64 c, .int .i64 d]) (.int .i64 1)).run Try.prog W = .ok (.int .i64 b) W := by kernel_rfl
theorem index28_2 (a b c d : Int) (W : World) : (Instr.index 28 (.agg #[.int .i64 a, .int .i64 b, .int .i64 c, .int .i64 d]) (.int .i64 2)).run Try.prog W = .ok (.int .i64 c) W := by kernel_rfl
theorem index28_3 (a b c d : Int) (W : World) : (Instr.index 28 (.agg #[.int .i64 a, .int .i64 b, .int .i64 c, .int .i64 d]) (.int .i64 3)).run Try.prog W = .ok (.int .i64 d) W := by kernel_rfl
def tab0 (k : Nat) : List Int := List.replicate (4 * k) (-1) ++ List.replicate (16 - 4 * k) 0
theorem tab0_succ (k : Nat) (hk : k < 4) : ((((tab0 k).set (k * 4) (-1)).set (k * 4 + 1) (-1)).set (k * 4 + 2) (-1)).set (k * 4 + 3) (-1) = tab0 (k + 1) := by
  have : k = 0 ∨ k = 1 ∨ k = 2 ∨ k = 3 := by omega
  rcases this with rfl | rfl | rfl | rfl <;> rfl
theorem and3 (y : Int) (h0 : 0 ≤ y) (h1 : y < 65536) : bits .and .u16 y 3 = y % 4 := by
  obtain ⟨Y, rfl⟩ : ∃ Y : Nat, y = (Y : Int) := ⟨y.toNat, by omega⟩
  have key : ∀ Z : Nat, Z < 65536 → bits .and .u16 (Z : Int) 3 = ((Z &&& 3 : Nat) : Int) := by
    intro Z hZ
    exact (bits_nat .u16 16 (by decide) (fun n h0 h1 => by rw [show IntKind.u16.wrap n = n % 65536 by simp [IntKind.wrap, IntKind.bits, IntKind.signed]]; omega) Z 3 (by omega) (by decide)).1
  rw [key Y (by omega), show (3 : Nat) = 2 ^ 2 - 1 from rfl, Nat.and_two_pow_sub_one_eq_mod]
  rfl
theorem opc (x : Int) (h0 : 0 ≤ x) (h1 : x < 65536) : ∃ o p c : Nat, o < 4 ∧ p < 4 ∧ c < 4 ∧ wrap64 (bits BinOp.and IntKind.u16 (x / 4) 3) = (o : Int) ∧ wrap64 (bits BinOp.and IntKind.u16 (x / 16) 3) = (p : Int) ∧ bits BinOp.and IntKind.u16 x 3 = (c : Int) ∧ IntKind.u64.wrap (wrap64 ((o : Int) + 1)) = (o : Int) + 1 ∧ ((o : Int) < 4) = True ∧ ((p : Int) < 4) = True := by
  refine ⟨((x / 4) % 4).toNat, ((x / 16) % 4).toNat, (x % 4).toNat, by omega, by omega, by omega, ?_, ?_, ?_, ?_, eq_true (by omega), eq_true (by omega)⟩
  · rw [and3 _ (by omega) (by omega)]; unfold wrap64; omega
  · rw [and3 _ (by omega) (by omega)]; unfold wrap64; omega
  · rw [and3 _ (by omega) (by omega)]; omega
  · rw [IntKind.wrap_u64]; unfold wrap64; omega
theorem awakeE : curtilagelaw11_awake.f = some true := by decide +kernel
set_option maxRecDepth 100000 in
set_option maxHeartbeats 8000000 in
theorem FramesEach_calls (a0 : Int) (A1 : Option Addr) (c1 : Nat) (l1 : List Int) (w : World) (h0 : 0 ≤ a0 ∧ a0 < 256) (hr1 : Kd.C (Kd.int .u16) w A1 l1.length l1) (hc1 : l1.length ≤ c1) (hu : ∀ x ∈ l1, 0 ≤ x ∧ x < 65536) :
    Calls Try.prog 3 #[.int .u8 a0, .slice A1 l1.length c1] w fun e w' => e = .returned (.bool true) ∧ Below w.heap.size w w' := by
  have HR1 := Aside0.mk hr1
  have HC1 := Aside0.mk hc1
  clear hr1 hc1
  have hnew : frames_New.f (a0 % 40) = some (List.replicate (a0 % 40).toNat z45, 0) := by
    unfold frames_New.f
    rw [if_neg (by omega), if_neg (by omega), if_pos (by omega), if_pos (by omega)]
  go_enter Try.func3, Try.ntmps3
  by_cases hc : (l1.length : Int) > 80
  · have c1b0 : decide (80 < (l1.length : Int)) = true := decide_eq_true hc
    have c1b1 : decide (80 < l1.length) = true := decide_eq_true (by omega)
    go_wp2_with (go_at_call 6; refine (curtilagelaw11_awake.calls true _ awakeE).mono ?_; rintro e w2 ⟨rfl, hb⟩)
    go_ret
    exact ⟨rfl, hb⟩
  · have c1b0 : decide (80 < (l1.length : Int)) = false := decide_eq_false hc
    have c1b1 : decide (80 < l1.length) = false := decide_eq_false (by omega)
    go_wp2_with (go_at_call 7; refine (frames_New.calls (a0 % 40) _ _ _ hnew).mono ?_; rintro e w1 ⟨v0, rfl, hR, hb1⟩)
    have hS0 : St w (w1.alloc (.cells (Array.replicate 16 (.int .i64 0)) 29)) w1.heap.size v0 (List.replicate (a0 % 40).toNat z45) (tab0 0) :=
      ⟨⟨blk_new w1 _, rfl⟩, Kd.V_alloc (Kd.V_mono (Kd.V_bound (Kd.R_V hR)) (fun k hk => by have := hk.2; omega)) _, below_alloc hb1 _, hb1.size⟩
    clear hR hb1
    generalize w1.heap.size = b at *
    go_loopw [41] (fun i wr => ∃ k : Nat, k ≤ 4 ∧ i = .int .i64 k ∧ Aside0 (St w wr b v0 (List.replicate (a0 % 40).toNat z45) (tab0 k))) (fun i _ => 4 - (intOf i).toNat)
    case atStart => exact ⟨0, by omega, rfl, ⟨hS0⟩⟩
    case round =>
      obtain ⟨k, hk, rfl, HS⟩ := hrel
      by_cases hlt : k < 4
      · have s0 := HS.out
        have s1 := s0.set (k * 4) (-1)
        have s2 := s1.set (k * 4 + 1) (-1)
        have s3 := s2.set (k * 4 + 2) (-1)
        have s4 := s3.set (k * 4 + 3) (-1)
        rw [tab0_succ k hlt] at s4
        have S4 := Aside0.mk s4
        have c0 := s0.at_.cell (k * 4) (by omega)
        have f0 := s0.at_.froz (k * 4)
        have c1 := s1.at_.cell (k * 4 + 1) (by omega)
        have f1 := s1.at_.froz (k * 4 + 1)
        have c2 := s2.at_.cell (k * 4 + 2) (by omega)
        have f2 := s2.at_.froz (k * 4 + 2)
        have c3 := s3.at_.cell (k * 4 + 3) (by omega)
        have f3 := s3.at_.froz (k * 4 + 3)
        clear s0 s1 s2 s3 s4
        go_wp2
        go_roundw
        case rel => exact ⟨k + 1, by omega, by go_num, S4⟩
        case measure => simp [intOf]; omega
      · obtain rfl : k = 4 := by omega
        have hT4 : tab0 4 = List.replicate 16 (-1) := rfl
        rw [hT4] at HS
        have hI0 := inv_new (a0 % 40).toNat
        have hn39 : (a0 % 40).toNat ≤ 39 := by omega
        have hnn : (((a0 % 40).toNat : Nat) : Int) = a0 % 40 := by omega
        generalize hN : (a0 % 40).toNat = n at *
        rw [show ((4 : Nat) : Int) = 4 from rfl]
        go_wp2
        go_loopw [5, 50] (fun v i wr => ∃ (l : List S45) (t : List Int) (k : Nat), k ≤ l1.length ∧ i = .int .i64 k ∧ Aside0 (St w wr b v l t) ∧ Aside0 (Inv n l t)) (fun _ i _ => l1.length - (intOf i).toNat)
        case atStart => exact ⟨_, _, 0, Nat.zero_le _, rfl, HS, ⟨hI0⟩⟩
        case round =>
          clear hI0 HS hS0 hT4
          obtain ⟨l, t, k, hk, rfl, HS, HI⟩ := hrel
          by_cases hlt : k < l1.length
          · obtain ⟨ad, e1, hx1⟩ := Kd.at_int HR1.out (k : Int) (by omega) (by omega)
            cases e1
            replace hx1 := (HS.out.bel.cell (World.block_lt_of_cell? w _ hx1)).trans hx1
            simp only [Int.toNat_natCast] at hx1
            generalize hx : rd l1 (k : Int) = x at hx1
            have hxb : 0 ≤ x ∧ x < 65536 := by
              rw [← hx]
              unfold rd
              rw [Int.toNat_natCast, List.getD_eq_getElem?_getD, List.getElem?_eq_getElem hlt]
              exact hu _ (List.getElem_mem hlt)
            clear hx
            obtain ⟨o, p, c, ho, hp, hcc, eo, ep, ec, eo1, io, ip⟩ := opc x hxb.1 hxb.2
            have EO := Aside0.mk eo
            have EP := Aside0.mk ep
            have EC := Aside0.mk ec
            have EO1 := Aside0.mk eo1
            clear eo ep ec eo1
            obtain ⟨A5, c5, e5⟩ := Kd.V_slice HS.out.row
            subst e5
            go_upto_block 4 with (fail)
            rw [EO.out, EP.out, EC.out, EO1.out]
            clear EO EP EO1 EC
            go_cut [5] (fun v5 wc => ∃ (l' : List S45) (t' : List Int), Aside0 (St w wc b v5 l' t') ∧ Aside0 (Inv n l' t'))
            case first =>
              have hat := HS.out.at_
              obtain ⟨v, hv⟩ : ∃ v, t[4 * o + p]? = some v := ⟨t[4 * o + p]'(by rw [hat.2]; omega), List.getElem?_eq_getElem _⟩
              have : c = 0 ∨ c = 1 ∨ c = 2 ∨ c = 3 := by omega
              rcases this with rfl | rfl | rfl | rfl
              · obtain ⟨l', i, e, hf, hcase⟩ := HI.out.take hn39 o p ho hp v hv
                have hcall := frames_Take.calls (fun k => k ≠ b) A5 c5 l ((o : Int) + 1) (p : Int) l' i e wr HS.out.row hf
                go_upto_region 23 with (go_at_call 8; refine hcall.mono ?_; rintro e_ w2 ⟨v2, rfl, hV2, hb2⟩)
                have s2 : St w w2 b v2 l' t := ⟨(HS.out.below hb2).at_, Kd.V_mono hV2 (fun q hq => by
                  rcases hq with hq | hq
                  · exact hq
                  · have := (Array.getElem?_eq_some_iff.1 HS.out.at_.1).1
                    omega), (HS.out.below hb2).bel, HS.out.hb⟩
                have hg := s2.at_.cell (o * 4 + p) (by omega)
                have hgf := s2.at_.froz (o * 4 + p)
                rw [show t.getD (o * 4 + p) 0 = v by rw [List.getD_eq_getElem?_getD, show o * 4 + p = 4 * o + p by omega, hv]; rfl] at hg
                have S2 := Aside0.mk s2
                clear s2
                rcases hcase with ⟨h1, rfl, rfl⟩ | ⟨h1, rfl, rfl, h4⟩ | ⟨h1, rfl, h3, h4, h5⟩
                · have d1 : decide (0 ≤ v) = true := decide_eq_true h1
                  go_wp2
                  go_meet
                  case rel => exact ⟨_, _, S2, HI⟩
                · have d1 : decide (0 ≤ v) = false := decide_eq_false (by omega)
                  have hV0 := (HS.out.below hb2).row
                  go_wp2_with (go_at_call 9; refine (frames_Free.calls A5 c5 l' 0 w2 (Kd.V_reads' hV0).2.2 (Kd.V_reads' hV0).2.1 h4).mono ?_; rintro e_ w3 ⟨rfl, hb3⟩)
                  go_meet
                  case rel => exact ⟨_, _, ⟨S2.out.below hb3⟩, HI⟩
                · have d1 : decide (0 ≤ v) = false := decide_eq_false (by omega)
                  have s3 := S2.out.set (o * 4 + p) i
                  have S3 := Aside0.mk s3
                  clear s3
                  go_wp2
                  go_meet
                  case rel => exact ⟨_, _, S3, ⟨by rw [show o * 4 + p = 4 * o + p by omega]; exact h5⟩⟩
              · obtain ⟨l', i, e, hf, hcase⟩ := HI.out.take hn39 o p ho hp v hv
                have hcall := frames_Take.calls (fun k => k ≠ b) A5 c5 l ((o : Int) + 1) (p : Int) l' i e wr HS.out.row hf
                go_upto_region 23 with (go_at_call 8; refine hcall.mono ?_; rintro e_ w2 ⟨v2, rfl, hV2, hb2⟩)
                have s2 : St w w2 b v2 l' t := ⟨(HS.out.below hb2).at_, Kd.V_mono hV2 (fun q hq => by
                  rcases hq with hq | hq
                  · exact hq
                  · have := (Array.getElem?_eq_some_iff.1 HS.out.at_.1).1
                    omega), (HS.out.below hb2).bel, HS.out.hb⟩
                have hg := s2.at_.cell (o * 4 + p) (by omega)
                have hgf := s2.at_.froz (o * 4 + p)
                rw [show t.getD (o * 4 + p) 0 = v by rw [List.getD_eq_getElem?_getD, show o * 4 + p = 4 * o + p by omega, hv]; rfl] at hg
                have S2 := Aside0.mk s2
                clear s2
                rcases hcase with ⟨h1, rfl, rfl⟩ | ⟨h1, rfl, rfl, h4⟩ | ⟨h1, rfl, h3, h4, h5⟩
                · have d1 : decide (0 ≤ v) = true := decide_eq_true h1
                  go_wp2
                  go_meet
                  case rel => exact ⟨_, _, S2, HI⟩
                · have d1 : decide (0 ≤ v) = false := decide_eq_false (by omega)
                  have hV0 := (HS.out.below hb2).row
                  go_wp2_with (go_at_call 9; refine (frames_Free.calls A5 c5 l' 0 w2 (Kd.V_reads' hV0).2.2 (Kd.V_reads' hV0).2.1 h4).mono ?_; rintro e_ w3 ⟨rfl, hb3⟩)
                  go_meet
                  case rel => exact ⟨_, _, ⟨S2.out.below hb3⟩, HI⟩
                · have d1 : decide (0 ≤ v) = false := decide_eq_false (by omega)
                  have s3 := S2.out.set (o * 4 + p) i
                  have S3 := Aside0.mk s3
                  clear s3
                  go_wp2
                  go_meet
                  case rel => exact ⟨_, _, S3, ⟨by rw [show o * 4 + p = 4 * o + p by omega]; exact h5⟩⟩
              · obtain ⟨l', e, hf, he, hI2⟩ := HI.out.give hn39 o p ho hp v hv
                have hcall := frames_Give.calls (fun k => k ≠ b) A5 c5 l ((o : Int) + 1) (p : Int) l' e wr HS.out.row hf
                go_upto_region 31 with (go_at_call 10; refine hcall.mono ?_; rintro e_ w2 ⟨v2, rfl, hV2, hb2⟩)
                have s2 : St w w2 b v2 l' t := ⟨(HS.out.below hb2).at_, Kd.V_mono hV2 (fun q hq => by
                  rcases hq with hq | hq
                  · exact hq
                  · have := (Array.getElem?_eq_some_iff.1 HS.out.at_.1).1
                    omega), (HS.out.below hb2).bel, HS.out.hb⟩
                have hg := s2.at_.cell (o * 4 + p) (by omega)
                have hgf := s2.at_.froz (o * 4 + p)
                rw [show t.getD (o * 4 + p) 0 = v by rw [List.getD_eq_getElem?_getD, show o * 4 + p = 4 * o + p by omega, hv]; rfl] at hg
                have s3 := s2.set (o * 4 + p) (-1)
                have S3 := Aside0.mk s3
                have S2 := Aside0.mk s2
                clear s2 s3
                have d1 : (e == 0) = decide (0 ≤ v) := by
                  rw [Bool.eq_iff_iff, beq_iff_eq, decide_eq_true_eq]
                  exact he
                go_wp2
                go_region
                all_goals (try go_wp2)
                go_meet
                case rel => exact ⟨_, _, ⟨S3.out.below (below_drew (Below.refl _ _))⟩, ⟨by rw [show o * 4 + p = 4 * o + p by omega]; exact hI2⟩⟩
              · obtain ⟨l', cn, hf, hI2⟩ := HI.out.drop hn39 o ho
                have hcall := frames_Drop.calls A5 c5 l ((o : Int) + 1) l' cn wr (Kd.V_reads' HS.out.row).2.2 (Kd.V_reads' HS.out.row).2.1 hf
                go_upto_region 19 with (go_at_call 11; refine hcall.mono ?_; rintro e_ w2 ⟨v2, rfl, hR2, hb2⟩)
                have hV2 := drop_row HS.out hb2 hR2
                have s4 := ((((hV2.set (o * 4) (-1)).set (o * 4 + 1) (-1)).set (o * 4 + 2) (-1)).set (o * 4 + 3) (-1))
                rw [cutT_eq] at s4
                have s1 := hV2.set (o * 4) (-1)
                have s2 := s1.set (o * 4 + 1) (-1)
                have s3 := s2.set (o * 4 + 2) (-1)
                have c0 := hV2.at_.cell (o * 4) (by omega)
                have f0 := hV2.at_.froz (o * 4)
                have c1 := s1.at_.cell (o * 4 + 1) (by omega)
                have f1 := s1.at_.froz (o * 4 + 1)
                have c2 := s2.at_.cell (o * 4 + 2) (by omega)
                have f2 := s2.at_.froz (o * 4 + 2)
                have c3 := s3.at_.cell (o * 4 + 3) (by omega)
                have f3 := s3.at_.froz (o * 4 + 3)
                have S4 := Aside0.mk s4
                clear hV2 s1 s2 s3 s4
                go_wp2
                go_meet
                case rel => exact ⟨_, _, S4, ⟨hI2⟩⟩
            case rest =>
              clear HI HS hx1
              obtain ⟨l', t', HS, HI⟩ := hcut
              obtain ⟨hl, fr, hh, hfr, hsum⟩ := HI.out.sums
              go_wp2
              go_loopw [22, 146] (fun s i wx => ∃ q : Nat, q ≤ 4 ∧ s = .int .i64 (sumTo hl q : Nat) ∧ i = .int .i64 q ∧ Aside0 (St w wx b u5 l' t')) (fun _ i _ => 4 - (intOf i).toNat)
              case atStart => exact ⟨0, by omega, rfl, rfl, HS⟩
              case round =>
                clear HS
                obtain ⟨q, hq, rfl, rfl, HS⟩ := hrel
                obtain ⟨A5, c5, e5⟩ := Kd.V_slice HS.out.row
                subst e5
                by_cases hlt2 : q < 4
                · have hcall := frames_Held.calls A5 c5 l' ((q : Int) + 1) _ wr (Kd.V_reads' HS.out.row).2.2 (Kd.V_reads' HS.out.row).2.1 (hh q hlt2)
                  have hb39 := sumTo_le hl fr n hsum hn39 q hlt2
                  go_upto_region 39 with (go_at_call 12; refine hcall.mono ?_; rintro e_ w3 ⟨rfl, hb3⟩)
                  have s3 := HS.out.below hb3
                  have S3 := Aside0.mk s3
                  obtain ⟨y0, t0, g0⟩ := s3.at_.read q 0 hlt2 (by decide)
                  obtain ⟨y1, t1, g1⟩ := s3.at_.read q 1 hlt2 (by decide)
                  obtain ⟨y2, t2, g2⟩ := s3.at_.read q 2 hlt2 (by decide)
                  obtain ⟨y3, t3, g3⟩ := s3.at_.read q 3 hlt2 (by decide)
                  rw [Nat.add_zero] at g0
                  have T0 := Aside0.mk t0
                  have T1 := Aside0.mk t1
                  have T2 := Aside0.mk t2
                  have T3 := Aside0.mk t3
                  clear t0 t1 t2 t3
                  clear s3 hb3 HS
                  have iq : ((q : Int) < 4) = True := eq_true (by omega)
                  have G0 := HI.out.get q 0 hlt2 (by decide) y0 T0.out
                  have G1 := HI.out.get q 1 hlt2 (by decide) y1 T1.out
                  have G2 := HI.out.get q 2 hlt2 (by decide) y2 T2.out
                  have G3 := HI.out.get q 3 hlt2 (by decide) y3 T3.out
                  clear T0 T1 T2 T3
                  have GG := Aside0.mk (And.intro G0 (And.intro G1 (And.intro G2 G3)))
                  clear G0 G1 G2 G3
                  go_wp2
                  clear g0 g1 g2 g3
                  go_loopw [159] (fun i wy => ∃ j : Nat, j ≤ 4 ∧ i = .int .i64 j ∧ Aside0 (St w wy b (.slice A5 l'.length c5) l' t')) (fun i _ => 4 - (intOf i).toNat)
                  case atStart => exact ⟨0, by omega, rfl, S3⟩
                  case round =>
                    clear S3
                    obtain ⟨j, hj, rfl, HS⟩ := hrel
                    have hV := HS.out.row
                    have hf := frames_Find.calls A5 c5 l' ((q : Int) + 1) (j : Int)
                    by_cases hlt3 : j < 4
                    · have : j = 0 ∨ j = 1 ∨ j = 2 ∨ j = 3 := by omega
                      rcases this with rfl | rfl | rfl | rfl
                      · obtain ⟨_, _, hfi⟩ := GG.out.1
                        have hix := fun W => index28_0 y0 y1 y2 y3 W
                        by_cases hv : 0 ≤ y0
                        · rw [if_pos hv, decide_eq_true hv] at hfi
                          have d1 : decide (0 ≤ y0) = true := decide_eq_true hv
                          have hcl := frames_Find.calls A5 c5 l' ((q : Int) + 1) 0 y0 true wr (Kd.V_reads' HS.out.row).2.2 (Kd.V_reads' HS.out.row).2.1 hfi
                          go_wp2_with (go_at_call 13; refine hcl.mono ?_; rintro e_ w4 ⟨rfl, hb4⟩)
                          go_roundw
                          case rel => exact ⟨1, by omega, rfl, ⟨HS.out.below hb4⟩⟩
                          case measure => decide
                        · rw [if_neg hv, decide_eq_false hv] at hfi
                          have d1 : decide (0 ≤ y0) = false := decide_eq_false hv
                          have hcl := frames_Find.calls A5 c5 l' ((q : Int) + 1) 0 0 false wr (Kd.V_reads' HS.out.row).2.2 (Kd.V_reads' HS.out.row).2.1 hfi
                          go_wp2_with (go_at_call 13; refine hcl.mono ?_; rintro e_ w4 ⟨rfl, hb4⟩)
                          go_roundw
                          case rel => exact ⟨1, by omega, rfl, ⟨HS.out.below hb4⟩⟩
                          case measure => decide
                      · obtain ⟨_, _, hfi⟩ := GG.out.2.1
                        have hix := fun W => index28_1 y0 y1 y2 y3 W
                        by_cases hv : 0 ≤ y1
                        · rw [if_pos hv, decide_eq_true hv] at hfi
                          have d1 : decide (0 ≤ y1) = true := decide_eq_true hv
                          have hcl := frames_Find.calls A5 c5 l' ((q : Int) + 1) 1 y1 true wr (Kd.V_reads' HS.out.row).2.2 (Kd.V_reads' HS.out.row).2.1 hfi
                          go_wp2_with (go_at_call 13; refine hcl.mono ?_; rintro e_ w4 ⟨rfl, hb4⟩)
                          go_roundw
                          case rel => exact ⟨2, by omega, rfl, ⟨HS.out.below hb4⟩⟩
                          case measure => decide
                        · rw [if_neg hv, decide_eq_false hv] at hfi
                          have d1 : decide (0 ≤ y1) = false := decide_eq_false hv
                          have hcl := frames_Find.calls A5 c5 l' ((q : Int) + 1) 1 0 false wr (Kd.V_reads' HS.out.row).2.2 (Kd.V_reads' HS.out.row).2.1 hfi
                          go_wp2_with (go_at_call 13; refine hcl.mono ?_; rintro e_ w4 ⟨rfl, hb4⟩)
                          go_roundw
                          case rel => exact ⟨2, by omega, rfl, ⟨HS.out.below hb4⟩⟩
                          case measure => decide
                      · obtain ⟨_, _, hfi⟩ := GG.out.2.2.1
                        have hix := fun W => index28_2 y0 y1 y2 y3 W
                        by_cases hv : 0 ≤ y2
                        · rw [if_pos hv, decide_eq_true hv] at hfi
                          have d1 : decide (0 ≤ y2) = true := decide_eq_true hv
                          have hcl := frames_Find.calls A5 c5 l' ((q : Int) + 1) 2 y2 true wr (Kd.V_reads' HS.out.row).2.2 (Kd.V_reads' HS.out.row).2.1 hfi
                          go_wp2_with (go_at_call 13; refine hcl.mono ?_; rintro e_ w4 ⟨rfl, hb4⟩)
                          go_roundw
                          case rel => exact ⟨3, by omega, rfl, ⟨HS.out.below hb4⟩⟩
                          case measure => decide
                        · rw [if_neg hv, decide_eq_false hv] at hfi
                          have d1 : decide (0 ≤ y2) = false := decide_eq_false hv
                          have hcl := frames_Find.calls A5 c5 l' ((q : Int) + 1) 2 0 false wr (Kd.V_reads' HS.out.row).2.2 (Kd.V_reads' HS.out.row).2.1 hfi
                          go_wp2_with (go_at_call 13; refine hcl.mono ?_; rintro e_ w4 ⟨rfl, hb4⟩)
                          go_roundw
                          case rel => exact ⟨3, by omega, rfl, ⟨HS.out.below hb4⟩⟩
                          case measure => decide
                      · obtain ⟨_, _, hfi⟩ := GG.out.2.2.2
                        have hix := fun W => index28_3 y0 y1 y2 y3 W
                        by_cases hv : 0 ≤ y3
                        · rw [if_pos hv, decide_eq_true hv] at hfi
                          have d1 : decide (0 ≤ y3) = true := decide_eq_true hv
                          have hcl := frames_Find.calls A5 c5 l' ((q : Int) + 1) 3 y3 true wr (Kd.V_reads' HS.out.row).2.2 (Kd.V_reads' HS.out.row).2.1 hfi
                          go_wp2_with (go_at_call 13; refine hcl.mono ?_; rintro e_ w4 ⟨rfl, hb4⟩)
                          go_roundw
                          case rel => exact ⟨4, by omega, rfl, ⟨HS.out.below hb4⟩⟩
                          case measure => decide
                        · rw [if_neg hv, decide_eq_false hv] at hfi
                          have d1 : decide (0 ≤ y3) = false := decide_eq_false hv
                          have hcl := frames_Find.calls A5 c5 l' ((q : Int) + 1) 3 0 false wr (Kd.V_reads' HS.out.row).2.2 (Kd.V_reads' HS.out.row).2.1 hfi
                          go_wp2_with (go_at_call 13; refine hcl.mono ?_; rintro e_ w4 ⟨rfl, hb4⟩)
                          go_roundw
                          case rel => exact ⟨4, by omega, rfl, ⟨HS.out.below hb4⟩⟩
                          case measure => decide
                    · obtain rfl : j = 4 := by omega
                      go_wp2
                      go_roundw
                      case rel => exact ⟨q + 1, by omega, by rw [show sumTo hl (q + 1) = sumTo hl q + hl q from rfl, Int.natCast_add], by go_num, HS⟩
                      case measure => simp [intOf]; omega
                · obtain rfl : q = 4 := by omega
                  have hlen := HI.out.len
                  have e1 : (((sumTo hl 4 : Nat) : Int) + (fr : Int) != (l'.length : Int)) = false := by
                    rw [bne_eq_false_iff_eq]
                    omega
                  have e2 : ((l'.length : Int) != a0 % 40) = false := by
                    rw [bne_eq_false_iff_eq]
                    omega
                  have hs39 : sumTo hl 4 + fr ≤ 39 := by omega
                  have hfc := frames_Free.calls A5 c5 l' fr wr (Kd.V_reads' HS.out.row).2.2 (Kd.V_reads' HS.out.row).2.1 hfr
                  clear hlen
                  go_wp2_with (go_at_call 9; refine hfc.mono ?_; rintro e_ w4 ⟨rfl, hb4⟩)
                  go_roundw
                  case rel => exact ⟨l', t', k + 1, by omega, by go_num, ⟨HS.out.below hb4⟩, HI⟩
                  case measure => simp [intOf]; omega
          · obtain rfl : k = l1.length := by omega
            go_wp2_with (go_at_call 6; refine (curtilagelaw11_awake.calls true _ awakeE).mono ?_; rintro e_ w4 ⟨rfl, hb4⟩)
            go_ret
            exact ⟨rfl, (HS.out.below hb4).bel⟩
end Go.Proofs.Ytgpdiehdljecnaa.X
