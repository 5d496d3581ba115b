/- The walks of intern.Drop: what the call of the Go function returns, and that nothing that lay before it has changed. -/
import Derived.Test.YtfoagjdcgipcaaaKa
import Derived.Deep.RegionHeld3
namespace Go.Proofs.Ytfoagjdcgipcaaa.X
open Go.RowKit Go.Shelf Go.Proofs.YtfoagjdcgipcaaaW.PrintWords Go.Proofs.YtfoagjdcgipcaaaW.PrintLast
set_option linter.unusedVariables false
set_option linter.unusedSimpArgs false
theorem Ends.setCount {P : Nat → Prop} {w W : World} {base k1 gk : Nat} {v0 t0 t1 : Value} {l0 : List (List S57)} {l1 : List Int} {gi cI : Nat} (h : Ends P w base k1 gk v0 (.slice (some ⟨gi, 0, none⟩) l1.length cI) t0 t1 l0 l1 W) (hgb : base ≤ gi) (z : Nat) (hz : z < l1.length) (c : Int) :
    Ends P w base k1 gk v0 (.slice (some ⟨gi, 0, none⟩) l1.length cI) t0 t1 l0 (l1.set z c) (W.setCell ⟨gi, z, none⟩ (.int .i64 c)) := by
  obtain ⟨hN, hR, hG, hK, hB, hs, hP, hg, hk, hwg, hwk, hne⟩ := h
  have hp := (Kd.R_put hR (z : Int) c).1
  simp only [Int.toNat_natCast] at hp
  exact ⟨Kd.N_far (p := ⟨gi, z, none⟩) hN (fun k hk e => hk.2 (by rw [e]; rfl)) _, hp, blk_far (p := ⟨gi, z, none⟩) hG (by dsimp only; omega) _, blk_far (p := ⟨gi, z, none⟩) hK (by dsimp only; omega) _, hB.setCell (p := ⟨gi, z, none⟩) (by dsimp only; omega) _, by simpa using hs, hP, hg, hk, hwg, hwk, hne⟩
theorem Ends.setLabel {P : Nat → Prop} {w W : World} {base k1 gk : Nat} {t0 t1 : Value} {l0 : List (List S57)} {l1 : List Int} {gn cN gi n1 cI : Nat} (h : Ends P w base k1 gk (.slice (some ⟨gn, 0, none⟩) l0.length cN) (.slice (some ⟨gi, 0, none⟩) n1 cI) t0 t1 l0 l1 W) (hgb : base ≤ gn) (hne : gn ≠ gi) (z : Nat) (hz : z < l0.length) :
    Ends P w base k1 gk (.slice (some ⟨gn, 0, none⟩) l0.length cN) (.slice (some ⟨gi, 0, none⟩) n1 cI) t0 t1 (l0.set z []) l1 (W.setCell ⟨gn, z, none⟩ (.slice none 0 0)) ∧ (∃ u, W.cell? ⟨gn, z, none⟩ = some u) ∧ W.frozen? ⟨gn, z, none⟩ = false := by
  obtain ⟨hN, hR, hG, hK, hB, hs, hP, hg, hk, hwg, hwk, hnk⟩ := h
  obtain ⟨h1, h2, h3⟩ := N_setLab hN z hz none 0 [] (Nat.le_refl _) (Kd.F_nil k57 W (fun _ => False)) (fun _ hk => hk.elim)
  have RV0 := Kd.R_far1 hR rfl (g := gn) (by simp [Value.ownBlock]; omega)
  have RV1 := Kd.R_mono (Kd.R_far (p := ⟨gn, z, none⟩) RV0 (fun _ hk => hk.2) (.slice none 0 0)) (ok' := fun _ => True) (fun _ _ => trivial)
  exact ⟨⟨h1, RV1, blk_far (p := ⟨gn, z, none⟩) hG (by dsimp only; omega) _, blk_far (p := ⟨gn, z, none⟩) hK (by dsimp only; omega) _, hB.setCell (p := ⟨gn, z, none⟩) (by dsimp only; omega) _, by simpa using hs, hP, hg, hk, hwg, hwk, hnk⟩, h2, h3⟩
/-- The length without the zeros at the end. -/
def trimTo (l : List Int) : Nat → Nat
  | 0 => 0
  | m + 1 => if rd l (m : Int) = 0 then trimTo l m else m + 1
theorem trimTo_le (l : List Int) (m : Nat) : trimTo l m ≤ m := by
  induction m with
  | zero => exact Nat.le_refl _
  | succ m ih => unfold trimTo; split <;> omega
set_option maxRecDepth 100000 in
set_option maxHeartbeats 8000000 in
theorem has_any (g : Nat) (v0 : Value) (A1 : Option Addr) (c1 : Nat) (l1 : List Int) (a : Int) (w : World) (hb : w.heap[g]? = some (.cells #[v0, .slice A1 l1.length c1] 60 (0, 0))) (hr1 : Kd.C (Kd.int .i64) w A1 l1.length l1) (hc1 : l1.length ≤ c1) :
    Calls Try.prog 30 #[.pointer (some ⟨g, 0, none⟩), .int .i64 a] w fun e w' => e = .returned (.bool (decide (0 ≤ a ∧ a < l1.length ∧ rd l1 a ≠ 0))) ∧ Below w.heap.size w w' := by
  have HB := Q4 (Below.refl w.heap.size w)
  have hc0_ := blk_cell hb 0
  have hc1_ := blk_cell hb 1
  simp only [List.getElem?_toArray, List.getElem?_cons_zero, List.getElem?_cons_succ] at hc0_ hc1_
  by_cases h0 : 0 ≤ a
  · by_cases h1 : a < (l1.length : Int)
    · obtain ⟨ad, e, hx⟩ := Kd.at_int hr1 a h0 h1
      cases e
      obtain ⟨n, hn⟩ : ∃ n, rd l1 a = n := ⟨_, rfl⟩
      rw [hn] at hx ⊢
      clear hr1 hb
      have hd : decide (0 ≤ a ∧ a < l1.length ∧ n ≠ 0) = (n != 0) := by
        by_cases hq : n = 0 <;> simp [h0, h1, hq]
      rw [hd]
      clear hd hn
      have p0 := eq_true h0
      have p1 := eq_true h1
      clear h0 h1
      go_enter Try.func30, Try.ntmps30
      go_wp2
      go_ret
      exact ⟨rfl, by repeat (first|(with_reducible first|exact HB.out|apply Q8|apply Q5|apply Q9)|exact HB.out)⟩
    · have hd : decide (0 ≤ a ∧ a < l1.length ∧ rd l1 a ≠ 0) = false := by simp [h1]
      rw [hd]
      clear hd hr1 hb
      have p0 := eq_true h0
      have p1 := eq_false h1
      clear h0 h1
      go_enter Try.func30, Try.ntmps30
      go_wp2
      go_ret
      exact ⟨rfl, by repeat (first|(with_reducible first|exact HB.out|apply Q8|apply Q5|apply Q9)|exact HB.out)⟩
  · have hd : decide (0 ≤ a ∧ a < l1.length ∧ rd l1 a ≠ 0) = false := by simp [h0]
    rw [hd]
    clear hd hr1 hb
    have p0 := eq_false h0
    clear h0
    go_enter Try.func30, Try.ntmps30
    go_wp2
    go_ret
    exact ⟨rfl, by repeat (first|(with_reducible first|exact HB.out|apply Q8|apply Q5|apply Q9)|exact HB.out)⟩
set_option maxRecDepth 100000 in
set_option maxHeartbeats 8000000 in
theorem Drop_not (P0 P1 : Nat → Prop) (A0 A1 : Option Addr) (c0 c1 : Nat) (l0 : List (List S57)) (l1 : List Int) (a : Int) (w : World)
    (hs0 : Kd.V (Kd.slice 57 k57) 29 w w.heap.size P0 (.slice A0 l0.length c0) l0) (hs1 : Kd.V (Kd.int .i64) 3 w w.heap.size P1 (.slice A1 l1.length c1) l1) (hh : decide (0 ≤ a ∧ a < l1.length ∧ rd l1 a ≠ 0) = false) :
    Calls Try.prog 9 #[.agg #[.slice A0 l0.length c0, .slice A1 l1.length c1], .int .i64 a] w fun e w' => ∃ v0_ v1_ : Value, e = .returned (.tuple #[.agg #[v0_, v1_], .int .i64 1]) ∧ Kd.V (Kd.slice 57 k57) 29 w' w.heap.size (fun k_ => ((P0 k_ ∨ P1 k_) ∨ w.heap.size ≤ k_)) v0_ l0 ∧ Kd.V (Kd.int .i64) 3 w' w.heap.size (fun k_ => ((P0 k_ ∨ P1 k_) ∨ w.heap.size ≤ k_)) v1_ l1 ∧ Below w.heap.size w w' := by
  have HAS := Q4 hh
  clear hh
  have HS0 := Q4 (Kd.V_bound hs0)
  have HS1 := Q4 (Kd.V_bound hs1)
  have HB := Q4 (Q8 (Q8 (Q8 (Below.refl w.heap.size w) (.cells #[.slice A0 l0.length c0, .slice A1 l1.length c1] 27)) (.cells #[.slice none 0 0, .slice none 0 0] 27)) (.cells #[.slice A0 l0.length c0, .slice A1 l1.length c1] 60))
  have hsz : (((w.alloc (.cells #[.slice A0 l0.length c0, .slice A1 l1.length c1] 27)).alloc (.cells #[.slice none 0 0, .slice none 0 0] 27)).alloc (.cells #[.slice A0 l0.length c0, .slice A1 l1.length c1] 60)).heap.size = w.heap.size + 3 := by simp
  have K0 : (((w.alloc (.cells #[.slice A0 l0.length c0, .slice A1 l1.length c1] 27)).alloc (.cells #[.slice none 0 0, .slice none 0 0] 27)).alloc (.cells #[.slice A0 l0.length c0, .slice A1 l1.length c1] 60)).heap[w.heap.size]? = some (.cells #[.slice A0 l0.length c0, .slice A1 l1.length c1] 27 (0, 0)) := Q7 (Q7 (blk_new w _) _) _
  have K1 : (((w.alloc (.cells #[.slice A0 l0.length c0, .slice A1 l1.length c1] 27)).alloc (.cells #[.slice none 0 0, .slice none 0 0] 27)).alloc (.cells #[.slice A0 l0.length c0, .slice A1 l1.length c1] 60)).heap[w.heap.size + 1]? = some (.cells #[.slice none 0 0, .slice none 0 0] 27 (0, 0)) := Q7 (blk_new1 _ _ _ (by simp)) _
  have KG : (((w.alloc (.cells #[.slice A0 l0.length c0, .slice A1 l1.length c1] 27)).alloc (.cells #[.slice none 0 0, .slice none 0 0] 27)).alloc (.cells #[.slice A0 l0.length c0, .slice A1 l1.length c1] 60)).heap[w.heap.size + 2]? = some (.cells #[.slice A0 l0.length c0, .slice A1 l1.length c1] 60 (0, 0)) := blk_new1 _ _ _ (by simp)
  have hd0 := blk_cell K0 0
  have hd1 := blk_cell K0 1
  simp only [List.getElem?_toArray, List.getElem?_cons_zero, List.getElem?_cons_succ] at hd0 hd1
  clear hs0 hs1
  go_enter Try.func9, Try.ntmps9
  go_wp2_with (go_at_call 30; (with_reducible refine (has_any (w.heap.size + 2) (.slice A0 l0.length c0) A1 c1 l1 a _ KG ?s1 ?s2).mono ?_); (case s1 => exact Kd.C_below (Kd.V_reads' HS1.out).2.2 HB.out); (case s2 => exact (Kd.V_reads' HS1.out).2.1); rw [HAS.out]; rintro e w1 ⟨rfl, hb⟩; have KK0 := blk_below K0 hb; have KK1 := blk_below K1 hb; have KKG := blk_below KG hb; have HB1 := Q4 (below_step HB.out hb); have hsz1 := hb.size; rw [hsz] at hsz1; clear hb hd0 hd1; have hd0 := blk_cell KK0 0; have hd1 := blk_cell KK0 1; have he0 := blk_cell KK1 0; have he1 := blk_cell KK1 1; have hf0 := blk_frozen KK1 0; have hf1 := blk_frozen KK1 1; simp only [List.getElem?_toArray, List.getElem?_cons_zero, List.getElem?_cons_succ] at hd0 hd1 he0 he1)
  have HF := (HB1.out.setCell (p := ⟨w.heap.size + 1, 0, none⟩) (by simp) (.slice A0 l0.length c0)).setCell (p := ⟨w.heap.size + 1, 1, none⟩) (by simp) (.slice A1 l1.length c1)
  refine bodyPost_ret (results_ct rfl _ _ (w.heap.size + 1) 27 #[.slice A0 l0.length c0, .slice A1 l1.length c1] (0, 0) _ rfl (blk_put (blk_put KK1 0 _ rfl) 1 _ rfl) Try.underlying27 rfl (by kernel_rfl)) rfl ?_
  exact ⟨_, _, rfl, Kd.V_mono (Kd.V_below HS0.out HF) (fun k hk => .inl (.inl hk.1)), Kd.V_mono (Kd.V_below HS1.out HF) (fun k hk => .inl (.inr hk.1)), HF⟩
set_option maxRecDepth 100000 in
set_option maxHeartbeats 8000000 in
theorem Drop_do (P0 P1 : Nat → Prop) (A0 A1 : Option Addr) (c0 c1 : Nat) (l0 : List (List S57)) (l1 : List Int) (w : World)
    (hs0 : Kd.V (Kd.slice 57 k57) 29 w w.heap.size P0 (.slice A0 l0.length c0) l0) (hs1 : Kd.V (Kd.int .i64) 3 w w.heap.size P1 (.slice A1 l1.length c1) l1) (z : Nat) (hz : z < l1.length) (n : Int) (hn : rd l1 (z : Int) = n) (hn0 : n ≠ 0) (cc : Int) (hcc : wrap64 (n - 1) = cc) (hl0 : l0.length < 5864062014805) (hl1 : l1.length < 17592186044416) (y0 : List (List S57)) (hy0 : y0 = if cc = 0 then l0.set z [] else l0) (hzc : cc = 0 → z < l0.length) (T : Nat) (hT : trimTo (l1.set z cc) l1.length = T) (hTl : T ≤ l0.length) :
    Calls Try.prog 9 #[.agg #[.slice A0 l0.length c0, .slice A1 l1.length c1], .int .i64 (z : Int)] w fun e w' => ∃ v0_ v1_ : Value, e = .returned (.tuple #[.agg #[v0_, v1_], .int .i64 0]) ∧ Kd.V (Kd.slice 57 k57) 29 w' w.heap.size (fun k_ => ((P0 k_ ∨ P1 k_) ∨ w.heap.size ≤ k_)) v0_ (y0.take T) ∧ Kd.V (Kd.int .i64) 3 w' w.heap.size (fun k_ => ((P0 k_ ∨ P1 k_) ∨ w.heap.size ≤ k_)) v1_ ((l1.set z cc).take T) ∧ Below w.heap.size w w' := by
  have hh : decide (0 ≤ (z : Int) ∧ (z : Int) < l1.length ∧ rd l1 (z : Int) ≠ 0) = true := by rw [hn]; simp [hn0]; omega
  have HAS := Q4 hh
  have HN1 := Q4 hn
  have HY := Q4 hy0
  have HT := Q4 hT
  have HZC := Q4 hzc
  have HLM0 := Q4 hl0
  have HLM1 := Q4 hl1
  have hcw : IntKind.i64.wrap (n - 1) = cc := (i64_w _).trans hcc
  have p0 : (0 ≤ (z : Int)) = True := eq_true (by omega)
  have p1 : ((z : Int) < (l1.length : Int)) = True := eq_true (by omega)
  clear hh hn hy0 hT hzc hl0 hl1 hcc
  have HS0 := Q4 (Kd.V_bound hs0)
  have HS1 := Q4 (Kd.V_bound hs1)
  have HB := Q4 (Q8 (Q8 (Q8 (Below.refl w.heap.size w) (.cells #[.slice A0 l0.length c0, .slice A1 l1.length c1] 27)) (.cells #[.slice none 0 0, .slice none 0 0] 27)) (.cells #[.slice A0 l0.length c0, .slice A1 l1.length c1] 60))
  have hsz : (((w.alloc (.cells #[.slice A0 l0.length c0, .slice A1 l1.length c1] 27)).alloc (.cells #[.slice none 0 0, .slice none 0 0] 27)).alloc (.cells #[.slice A0 l0.length c0, .slice A1 l1.length c1] 60)).heap.size = w.heap.size + 3 := by simp
  have K0 : (((w.alloc (.cells #[.slice A0 l0.length c0, .slice A1 l1.length c1] 27)).alloc (.cells #[.slice none 0 0, .slice none 0 0] 27)).alloc (.cells #[.slice A0 l0.length c0, .slice A1 l1.length c1] 60)).heap[w.heap.size]? = some (.cells #[.slice A0 l0.length c0, .slice A1 l1.length c1] 27 (0, 0)) := Q7 (Q7 (blk_new w _) _) _
  have K1 : (((w.alloc (.cells #[.slice A0 l0.length c0, .slice A1 l1.length c1] 27)).alloc (.cells #[.slice none 0 0, .slice none 0 0] 27)).alloc (.cells #[.slice A0 l0.length c0, .slice A1 l1.length c1] 60)).heap[w.heap.size + 1]? = some (.cells #[.slice none 0 0, .slice none 0 0] 27 (0, 0)) := Q7 (blk_new1 _ _ _ (by simp)) _
  have KG : (((w.alloc (.cells #[.slice A0 l0.length c0, .slice A1 l1.length c1] 27)).alloc (.cells #[.slice none 0 0, .slice none 0 0] 27)).alloc (.cells #[.slice A0 l0.length c0, .slice A1 l1.length c1] 60)).heap[w.heap.size + 2]? = some (.cells #[.slice A0 l0.length c0, .slice A1 l1.length c1] 60 (0, 0)) := blk_new1 _ _ _ (by simp)
  have hd0 := blk_cell K0 0
  have hd1 := blk_cell K0 1
  simp only [List.getElem?_toArray, List.getElem?_cons_zero, List.getElem?_cons_succ] at hd0 hd1
  clear hs0 hs1
  go_enter Try.func9, Try.ntmps9
  go_upto_if 36 with (first|(go_at_call 30; (with_reducible refine (has_any (w.heap.size + 2) (.slice A0 l0.length c0) A1 c1 l1 (z : Int) _ KG ?s1 ?s2).mono ?_); (case s1 => exact Kd.C_below (Kd.V_reads' HS1.out).2.2 HB.out); (case s2 => exact (Kd.V_reads' HS1.out).2.1); rw [HAS.out]; rintro e w1 ⟨rfl, hb⟩; have KK0 := blk_below K0 hb; have KK1 := blk_below K1 hb; have KKG := blk_below KG hb; have HB1 := Q4 (below_step HB.out hb); have hsz1 := hb.size; rw [hsz] at hsz1; clear hb hd0 hd1; have hd0 := blk_cell KK0 0; have hd1 := blk_cell KK0 1; have he0 := blk_cell KK1 0; have he1 := blk_cell KK1 1; have hf0 := blk_frozen KK1 0; have hf1 := blk_frozen KK1 1; simp only [List.getElem?_toArray, List.getElem?_cons_zero, List.getElem?_cons_succ] at hd0 hd1 he0 he1)|(go_at_call 27; (with_reducible refine (own_any (fun k => P0 k ∧ k < w.heap.size) (w.heap.size + 2) A0 A1 c0 c1 l0 l1 _ ?s1 ?s2 ?s3 ?s4 ?s5 HLM0.out HLM1.out).mono ?_); (case s1 => exact KKG); (case s2 => exact fun k hk => by have := hk.2; omega); (case s3 => exact Kd.V_below HS0.out HB1.out); (case s4 => exact Kd.C_below (Kd.V_reads' HS1.out).2.2 HB1.out); (case s5 => exact (Kd.V_reads' HS1.out).2.1); rintro e w2 ⟨⟨ve, rfl⟩, v0, v1, hbg, hn, hi, hb⟩; obtain ⟨AN, cN, rfl⟩ := Kd.N_slice hn; obtain ⟨gi, cI, hv, hgi, hgl, cells, hcells⟩ := Kd.R_form hi (by omega : 0 < l1.length); subst hv; have LK1 := (hb.block (w.heap.size + 1) (by omega)).trans KK1; have HE : Aside0 (Ends (fun k => P0 k ∧ k < w.heap.size) w w1.heap.size (w.heap.size + 1) (w.heap.size + 2) (.slice AN l0.length cN) (.slice (some ⟨gi, 0, none⟩) l1.length cI) (.slice AN l0.length cN) (.slice (some ⟨gi, 0, none⟩) l1.length cI) l0 l1 w2) := Q4 ⟨hn, hi, hbg, LK1, HB1.out.trans (hb.mono (by omega)), (by omega), (fun _ hk => hk.2), (by omega), (by omega), (by omega), (by omega), (by omega)⟩; have hg0 := blk_cell hbg 0; have hg1 := blk_cell hbg 1; have hcf := Kd.R_cell 0 hi (z : Int) (by omega) (by omega); have hi0 : w2.cell? ⟨gi, z, none⟩ = some (.int .i64 (rd l1 (z : Int))) := hcf.1; have hi1 : w2.frozen? ⟨gi, z, none⟩ = false := hcf.2; rw [HN1.out] at hi0; have hne : gi ≠ w.heap.size + 2 := (by omega); clear hd0 hd1 he0 he1 hf0 hf1 hcf; simp only [List.getElem?_toArray, List.getElem?_cons_zero, List.getElem?_cons_succ] at hg0 hg1))
  go_cut [] (fun wc => ∃ v0_ : Value, Aside0 (Ends (fun k => P0 k ∧ k < w.heap.size) w w1.heap.size (w.heap.size + 1) (w.heap.size + 2) v0_ (.slice (some ⟨gi, 0, none⟩) l1.length cI) v0_ (.slice (some ⟨gi, 0, none⟩) l1.length cI) y0 (l1.set z cc) wc))
  case first =>
    by_cases hc0 : cc = 0
    · subst hc0
      have hc0 := Q4 (rfl : (0 : Int) = 0)
      have hzl := HZC.out rfl
      obtain ⟨gn, cap2, hv, hni, hnl, cells2, hcells2⟩ := Kd.N_form HE.out.1 (by omega : 0 < l0.length)
      injection hv with hv1 hv2 hv3
      clear hv2 hv3
      subst hv1
      have hne2 := blk_ne hcells2 hcells (by decide)
      have E1 := HE.out.setCount hgi z hz 0
      obtain ⟨E2, ⟨u, hu⟩, hfu⟩ := E1.setLabel hni hne2 z hzl
      have E3 := Q4 E2
      have pz : ((z : Int) < (l0.length : Int)) = True := eq_true (by omega)
      have hne3 : gn ≠ w.heap.size + 2 := (by omega)
      have hne4 : gi ≠ gn := Ne.symm hne2
      clear E1 E2
      go_wp2
      go_meet
      refine ⟨.slice (some ⟨gn, 0, none⟩) l0.length cN, ?_⟩
      have hy1 : y0 = l0.set z [] := by rw [HY.out]; simp
      rw [hy1]
      exact E3
    · have hq : (cc == 0) = false := by simpa using hc0
      have E1 := Q4 (HE.out.setCount hgi z hz cc)
      go_wp2
      go_meet
      refine ⟨.slice AN l0.length cN, ?_⟩
      rw [HY.out, if_neg hc0]
      exact E1
  case rest =>
    obtain ⟨v0_, HE2⟩ := hcut
    have hcnt := HE2.out.2.1
    have hgl2 := Kd.R_lt hcnt gi rfl
    have hg0 := blk_cell HE2.out.2.2.1 0
    have hg1 := blk_cell HE2.out.2.2.1 1
    have he0 := blk_cell HE2.out.2.2.2.1 0
    have he1 := blk_cell HE2.out.2.2.2.1 1
    have hf0 := blk_frozen HE2.out.2.2.2.1 0
    have hf1 := blk_frozen HE2.out.2.2.2.1 1
    simp only [List.getElem?_toArray, List.getElem?_cons_zero, List.getElem?_cons_succ] at hg0 hg1 he0 he1
    obtain ⟨AV, cV, rfl⟩ := Kd.N_slice HE2.out.1
    have HR := Q4 hcnt
    have hyl : y0.length = l0.length := by rw [HY.out]; split <;> simp
    have hll : (l1.set z cc).length = l1.length := by simp
    obtain ⟨L, hL⟩ : ∃ L, L = l1.set z cc := ⟨_, rfl⟩
    rw [← hL] at HE2 hcnt HR hll
    have HLS := Q4 hL
    have HLL := Q4 hll
    have HYL := Q4 hyl
    have HTL := Q4 hTl
    rw [← hL] at HT
    clear hL hll hyl hTl hcnt HAS HN1 HZC hi0 hi1 hcells hgl KK0 KK1 KKG hbg LK1 K0 K1 KG HE HB hsz hcw p0 p1 HB1 hg0 hg1 he0 he1 hf0 hf1
    have hg0 := blk_cell HE2.out.2.2.1 0
    have hg1 := blk_cell HE2.out.2.2.1 1
    simp only [List.getElem?_toArray, List.getElem?_cons_zero, List.getElem?_cons_succ] at hg0 hg1
    go_wp2
    go_loopg [7] l1.length (fun kq v7 w' => ∃ x : Int, v7 = .int .i64 x ∧ Aside0 (x = (kq : Int)) ∧ Aside0 (trimTo L kq = T) ∧ Aside0 (kq ≤ l1.length) ∧ Aside0 (Ends (fun k => P0 k ∧ k < w.heap.size) w w1.heap.size (w.heap.size + 1) (w.heap.size + 2) (.slice AV y0.length cV) (.slice (some ⟨gi, 0, none⟩) l1.length cI) (.slice AV y0.length cV) (.slice (some ⟨gi, 0, none⟩) l1.length cI) y0 L w'))
    case atStart => exact ⟨(l1.length : Int), rfl, Q4 rfl, HT, Q4 (Nat.le_refl _), HE2⟩
    case round =>
      clear hg0 hg1 HE2 HR
      obtain ⟨x, rfl, HX, HT2, HK, HE3⟩ := hrel
      have hg0 := blk_cell HE3.out.2.2.1 0
      have hg1 := blk_cell HE3.out.2.2.1 1
      have he0 := blk_cell HE3.out.2.2.2.1 0
      have he1 := blk_cell HE3.out.2.2.2.1 1
      have hf0 := blk_frozen HE3.out.2.2.2.1 0
      have hf1 := blk_frozen HE3.out.2.2.2.1 1
      simp only [List.getElem?_toArray, List.getElem?_cons_zero, List.getElem?_cons_succ] at hg0 hg1 he0 he1
      cases gk with
      | zero =>
        have hx0 : x = 0 := HX.out
        have hd : decide (0 < x) = false := decide_eq_false (by omega)
        have hTT := Q4 (show 0 = T from HT2.out)
        clear hx0
        obtain ⟨i29, hi29, _, _, _⟩ := info_parts info29
        obtain ⟨i3, hi3, _, _, _⟩ := info_parts info3
        have hcutN := cut_to (P := Try.prog) 22 29 .i64 Try.underlying22 hi29 AV y0.length cV x (by have := HX.out; omega) (by have := HX.out; have := HYL.out; have := HTL.out; have := hTT.out; omega) (Kd.N_reads' HE3.out.1).2.1
        have hcutI := cut_to (P := Try.prog) 25 3 .i64 Try.underlying25 hi3 (some ⟨gi, 0, none⟩) l1.length cI x (by have := HX.out; omega) (by have := HX.out; have := HK.out; omega) (Kd.R_reads' HE3.out.2.1).2.1
        have hxT : x.toNat = T := by have := HX.out; have := hTT.out; omega
        rw [hxT] at hcutN hcutI
        clear hxT hi29 hi3
        go_wp2
        go_region_held3 (fun w' => w'.cell? ⟨w.heap.size + 1 + 1, 0, none⟩ = some (.slice AV y0.length cV) ∧ w'.cell? ⟨w.heap.size + 1 + 1, 1, none⟩ = some (.slice (some ⟨gi, 0, none⟩) l1.length cI)) (go_keep) (fail)
        all_goals
          go_wp2
          have D1 := blk_put HE3.out.2.2.2.1 0 (.slice AV T cV) rfl
          have D2 := blk_put D1 1 (.slice (some ⟨gi, 0, none⟩) T cI) rfl
          have HF := Q9 ((HE3.out.2.2.2.2.1.setCell (p := ⟨w.heap.size + 1, 0, none⟩) (by simp) (.slice AV T cV)).setCell (p := ⟨w.heap.size + 1, 1, none⟩) (by simp) (.slice (some ⟨gi, 0, none⟩) T cI))
          have NT := Kd.N_take (m := T) HE3.out.1 (by have := HYL.out; have := HTL.out; omega)
          have RT := Kd.R_take (m := T) HE3.out.2.1 (by have := HLL.out; have := HK.out; have := hTT.out; omega)
          have hne : ∀ k, (((P0 k ∧ k < w.heap.size) ∨ w1.heap.size ≤ k) ∧ some k ≠ (Value.slice (some ⟨gi, 0, none⟩) l1.length cI).ownBlock) → k ≠ w.heap.size + 1 := fun k hk => by rcases hk.1 with hq | hq; (have := hq.2; omega); omega
          have NV := Kd.N_far (p := ⟨w.heap.size + 1, 1, none⟩) (Kd.N_far (p := ⟨w.heap.size + 1, 0, none⟩) NT hne (.slice AV T cV)) hne (.slice (some ⟨gi, 0, none⟩) T cI)
          have RV := Kd.R_set (Kd.R_set RT HE3.out.2.2.2.1 (by decide) 0 (.slice AV T cV)) D1 (by decide) 1 (.slice (some ⟨gi, 0, none⟩) T cI)
          refine bodyPost_ret (results_ct rfl _ _ (w.heap.size + 1) 27 #[.slice AV T cV, .slice (some ⟨gi, 0, none⟩) T cI] (0, 0) _ rfl (Qb D2) Try.underlying27 rfl (by kernel_rfl)) rfl ?_
          rw [← HLS.out]
          refine ⟨_, _, rfl, Kd.V_mono (Kd.V_drew (Kd.N_V NV)) (fun k hk => ?_), Kd.V_mono (Kd.V_drew (Kd.R_V (Kd.R_bound RV))) (fun k hk => .inr (by have := hk.2.1; omega)), HF⟩
          rcases hk.1 with hq | hq
          · exact .inl (.inl hq.1)
          · exact .inr (by omega)
      | succ k2 =>
        have hx1 : x = (k2 : Int) + 1 := HX.out
        have hk2 : k2 < l1.length := HK.out
        have hd : decide (0 < x) = true := decide_eq_true (by omega)
        obtain ⟨ji, hji⟩ : ∃ j_ : Int, wrap64 (x - 1) = j_ := ⟨_, rfl⟩
        have hjw : (IntKind.i64.wrap (x - 1)) = ji := (i64_w _).trans hji
        have hjk : ji = (k2 : Int) := by rw [← hji, hx1]; unfold wrap64; have := HLM1.out; omega
        have p0 : (0 ≤ ji) = True := eq_true (by omega)
        have p1 : (ji < (l1.length : Int)) = True := eq_true (by omega)
        have hr2 := (Kd.R_reads' HE3.out.2.1).2.2
        obtain ⟨ad, e, hx⟩ := Kd.at_int hr2 ji (by omega) (by have := HLL.out; omega)
        obtain rfl : (⟨gi, 0, none⟩ : Addr) = ad := (by injection e)
        (first | simp only [add_plain] at hx | simp only [add_at] at hx | simp only [Addr.add, Nat.zero_add] at hx|skip)
        have HJK := Q4 hjk
        clear hx1 hjk hr2 hji
        by_cases hz2 : rd L ji = 0
        · rw [hz2] at hx
          have HZ2 := Q4 hz2
          clear hz2 hk2
          go_wp2
          go_roundg k2
          case measure => omega
          case rel => exact ⟨ji, rfl, HJK, Q4 (by have := HT2.out; unfold trimTo at this; rw [← HJK.out, if_pos HZ2.out] at this; exact this), Q4 (by have := HK.out; omega), HE3⟩
        · have hzb : (rd L ji == 0) = false := by simpa using hz2
          obtain ⟨rr, hrr⟩ : ∃ r_, rd L ji = r_ := ⟨_, rfl⟩
          rw [hrr] at hx hzb hz2
          have hTT := Q4 (show k2 + 1 = T by have := HT2.out; unfold trimTo at this; rw [← HJK.out, hrr, if_neg hz2] at this; exact this)
          have hdz : decide (rr = 0) = false := decide_eq_false hz2
          clear hz2 hrr hk2
          obtain ⟨i29, hi29, _, _, _⟩ := info_parts info29
          obtain ⟨i3, hi3, _, _, _⟩ := info_parts info3
          have hcutN := cut_to (P := Try.prog) 22 29 .i64 Try.underlying22 hi29 AV y0.length cV x (by have := HX.out; omega) (by have := HX.out; have := HYL.out; have := HTL.out; have := hTT.out; omega) (Kd.N_reads' HE3.out.1).2.1
          have hcutI := cut_to (P := Try.prog) 25 3 .i64 Try.underlying25 hi3 (some ⟨gi, 0, none⟩) l1.length cI x (by have := HX.out; omega) (by have := HX.out; have := HK.out; omega) (Kd.R_reads' HE3.out.2.1).2.1
          have hxT : x.toNat = T := by have := HX.out; have := hTT.out; omega
          rw [hxT] at hcutN hcutI
          clear hxT hi29 hi3
          go_wp2
          go_region_held3 (fun w' => w'.cell? ⟨w.heap.size + 1 + 1, 0, none⟩ = some (.slice AV y0.length cV) ∧ w'.cell? ⟨w.heap.size + 1 + 1, 1, none⟩ = some (.slice (some ⟨gi, 0, none⟩) l1.length cI)) (go_keep) (fail)
          all_goals
            go_wp2
            have D1 := blk_put HE3.out.2.2.2.1 0 (.slice AV T cV) rfl
            have D2 := blk_put D1 1 (.slice (some ⟨gi, 0, none⟩) T cI) rfl
            have HF := Q9 ((HE3.out.2.2.2.2.1.setCell (p := ⟨w.heap.size + 1, 0, none⟩) (by simp) (.slice AV T cV)).setCell (p := ⟨w.heap.size + 1, 1, none⟩) (by simp) (.slice (some ⟨gi, 0, none⟩) T cI))
            have NT := Kd.N_take (m := T) HE3.out.1 (by have := HYL.out; have := HTL.out; omega)
            have RT := Kd.R_take (m := T) HE3.out.2.1 (by have := HLL.out; have := HK.out; have := hTT.out; omega)
            have hne : ∀ k, (((P0 k ∧ k < w.heap.size) ∨ w1.heap.size ≤ k) ∧ some k ≠ (Value.slice (some ⟨gi, 0, none⟩) l1.length cI).ownBlock) → k ≠ w.heap.size + 1 := fun k hk => by rcases hk.1 with hq | hq; (have := hq.2; omega); omega
            have NV := Kd.N_far (p := ⟨w.heap.size + 1, 1, none⟩) (Kd.N_far (p := ⟨w.heap.size + 1, 0, none⟩) NT hne (.slice AV T cV)) hne (.slice (some ⟨gi, 0, none⟩) T cI)
            have RV := Kd.R_set (Kd.R_set RT HE3.out.2.2.2.1 (by decide) 0 (.slice AV T cV)) D1 (by decide) 1 (.slice (some ⟨gi, 0, none⟩) T cI)
            refine bodyPost_ret (results_ct rfl _ _ (w.heap.size + 1) 27 #[.slice AV T cV, .slice (some ⟨gi, 0, none⟩) T cI] (0, 0) _ rfl (Qb D2) Try.underlying27 rfl (by kernel_rfl)) rfl ?_
            rw [← HLS.out]
            refine ⟨_, _, rfl, Kd.V_mono (Kd.V_drew (Kd.N_V NV)) (fun k hk => ?_), Kd.V_mono (Kd.V_drew (Kd.R_V (Kd.R_bound RV))) (fun k hk => .inr (by have := hk.2.1; omega)), HF⟩
            rcases hk.1 with hq | hq
            · exact .inl (.inl hq.1)
            · exact .inr (by omega)
end Go.Proofs.Ytfoagjdcgipcaaa.X
