/- Contracts of intern's keeper: own, free. -/
import Derived.Test.YtfoagjdcgipcaaaJu
namespace Go.Proofs.Ytfoagjdcgipcaaa.X
open Go.RowKit Go.Shelf Go.Proofs.YtfoagjdcgipcaaaW.PrintWords Go.Proofs.YtfoagjdcgipcaaaW.PrintLast
set_option linter.unusedVariables false
set_option linter.unusedSimpArgs false

set_option maxRecDepth 100000 in
set_option maxHeartbeats 8000000 in
theorem own_any (P0 : Nat → Prop) (g : Nat) (A0 A1 : Option Addr) (c0 c1 : Nat) (l0 : List (List S57)) (l1 : List Int) (w : World)
    (hb : w.heap[g]? = some (.cells #[.slice A0 l0.length c0, .slice A1 l1.length c1] 60 (0, 0))) (hg : ∀ k, P0 k → k < g)
    (hs0 : Kd.V (Kd.slice 57 k57) 29 w w.heap.size P0 (.slice A0 l0.length c0) l0) (hr1 : Kd.C (Kd.int .i64) w A1 l1.length l1) (hc1 : l1.length ≤ c1) (hl0 : l0.length < 5864062014805) (hl1 : l1.length < 17592186044416) :
    Calls Try.prog 27 #[.pointer (some ⟨g, 0, none⟩)] w fun e w' => (∃ v, e = .returned v) ∧ ∃ v0 v1, w'.heap[g]? = some (.cells #[v0, v1] 60 (0, 0)) ∧
      Kd.N (Kd.slice 57 k57) 29 w' w.heap.size (fun k => (P0 k ∨ w.heap.size ≤ k) ∧ some k ≠ v1.ownBlock) v0 l0 ∧ Kd.R (Kd.int .i64) 3 w' w.heap.size (fun _ => True) v1 l1 ∧ Below g w w' := by
  have BK := Q4 hb
  have HS := Q4 hs0
  have HR := Q4 hr1
  have HB := Q4 (Below.refl w.heap.size w)
  have hlt := (Array.getElem?_eq_some_iff.1 hb).1
  have hc0_ := blk_cell hb 0
  have hc1_ := blk_cell hb 1
  have hf0_ := blk_frozen hb 0
  have hf1_ := blk_frozen hb 1
  clear hb hs0 hr1
  go_enter Try.func27, Try.ntmps27
  simp only [List.getElem?_toArray, List.getElem?_cons_zero, List.getElem?_cons_succ] at hc0_ hc1_
  go_wp2
  go_region_with (first | (go_at_call 38; refine (CloneLab_any P0 A0 c0 l0 _ ?s1 hl0).mono ?_; (case s1 => exact Kd.V_below HS.out (by repeat (first | (with_reducible first | exact HB.out | apply Q8 | apply Q5 | apply Q9) | exact HB.out))); rintro e w1 ⟨v0, rfl, ho, hb⟩; obtain ⟨AN, cN, rfl⟩ := Kd.N_slice ho; have HN := Q4 ho; have NB := Q4 (below_size (by repeat (first | (with_reducible first | exact HB.out | apply Q8 | apply Q5 | apply Q9) | exact HB.out))); (try (have hlt_ := Kd.R_lt HI.out; have hge_ := Kd.R_base HI.out; have HM_ := Q4 (Kd.N_mono (ok' := fun k => (P0 k ∨ w.heap.size ≤ k) ∧ some k ≠ (Value.slice AI l1.length cI).ownBlock) ho (fun k hk => ⟨by rcases hk with hk | hk; exact .inl hk; exact .inr (Nat.le_trans NB.out hk), fun e => by have h1_ := hlt_ k e.symm; have h2_ := Nat.le_trans IB.out (hge_ k e.symm); rcases hk with hk | hk; (have := hg k hk; omega); exact Nat.lt_irrefl _ (Nat.lt_of_lt_of_le h1_ hk)⟩)); clear HN; have HN := HM_; clear HM_ hlt_ hge_; have n1_ := Q4 (Kd.R_below (by (with_reducible repeat (first | apply Kd.R_alloc | apply Kd.R_drewN | apply Kd.R_drew)); exact HI.out) hb); clear HI; have HI := n1_; clear n1_)); have n0_ := Q4 (below_step (by repeat (first | (with_reducible first | exact HB.out | apply Q8 | apply Q5 | apply Q9) | exact HB.out)) hb); have b0_ := Q4 (blk_below (g := g) (o := .cells #[.slice A0 l0.length c0, .slice A1 l1.length c1] 60 (0, 0)) (by (with_reducible repeat (first | refine Qa ?_ _ | refine Qb ?_ | refine Q7 ?_ _)); exact BK.out) hb); clear HB BK; have HB := n0_; have BK := b0_; clear n0_ b0_; clear ho hb; have hd0 := blk_cell BK.out 0; have hd1 := blk_cell BK.out 1; have he0 := blk_frozen BK.out 0; have he1 := blk_frozen BK.out 1; simp only [List.getElem?_toArray, List.getElem?_cons_zero, List.getElem?_cons_succ] at hd0 hd1) | (go_at_call 39; refine (slices_CloneInt.calls A1 c1 l1 l1 _ ?s1 hc1 (by unfold slices_CloneInt.f; rw [if_pos hl1])).mono ?_; (case s1 => exact Kd.C_below HR.out (by repeat (first | (with_reducible first | exact HB.out | apply Q8 | apply Q5 | apply Q9) | exact HB.out))); rintro e w1 ⟨v1, rfl, ho, hb⟩; obtain ⟨AI, cI, rfl⟩ := Kd.R_slice ho; have HI := Q4 ho; have IB := Q4 (below_size (by repeat (first | (with_reducible first | exact HB.out | apply Q8 | apply Q5 | apply Q9) | exact HB.out))); (try (have n0_ := Kd.N_elder' (u := .slice AI l1.length cI) (by (with_reducible repeat (first | apply Kd.N_alloc | apply Kd.N_drewN | apply Kd.N_drew)); exact HN.out) (Kd.R_base ho) hb; have n1_ := Q4 (Kd.N_mono (ok' := fun k => (P0 k ∨ w.heap.size ≤ k) ∧ some k ≠ (Value.slice AI l1.length cI).ownBlock) n0_ (fun k hk => ⟨by rcases hk.1 with hq | hq; exact .inl hq; exact .inr (Nat.le_trans NB.out hq), hk.2⟩)); clear HN n0_; have HN := n1_; clear n1_)); have n0_ := Q4 (below_step (by repeat (first | (with_reducible first | exact HB.out | apply Q8 | apply Q5 | apply Q9) | exact HB.out)) hb); have b0_ := Q4 (blk_below (g := g) (o := .cells #[.slice A0 l0.length c0, .slice A1 l1.length c1] 60 (0, 0)) (by (with_reducible repeat (first | refine Qa ?_ _ | refine Qb ?_ | refine Q7 ?_ _)); exact BK.out) hb); clear HB BK; have HB := n0_; have BK := b0_; clear n0_ b0_; clear ho hb; have hd0 := blk_cell BK.out 0; have hd1 := blk_cell BK.out 1; have he0 := blk_frozen BK.out 0; have he1 := blk_frozen BK.out 1; simp only [List.getElem?_toArray, List.getElem?_cons_zero, List.getElem?_cons_succ] at hd0 hd1))
  all_goals
    have HL := NB.out
    have HM := IB.out
    have b1 := blk_put BK.out 0 (.slice AN l0.length cN) rfl
    have b2 := blk_put b1 1 (.slice AI l1.length cI) rfl
    go_end0
    refine ⟨⟨_, rfl⟩, _, _, b2, ?_, Kd.R_set (Kd.R_set (Kd.R_lower HI.out HM) BK.out (by decide) 0 _) b1 (by decide) 1 _, ((HB.out.mono (Nat.le_of_lt hlt)).setCell (p := ⟨g, 0, none⟩) (Nat.le_refl _) _).setCell (p := ⟨g, 1, none⟩) (Nat.le_refl _) _⟩
    have n1 := Kd.N_mono (ok' := fun k => ((P0 k ∨ w.heap.size ≤ k) ∧ some k ≠ (Value.slice AI l1.length cI).ownBlock) ∧ k ≠ g) (Kd.N_lower HN.out HL) (fun k hk => ⟨hk, by
      rcases hk.1 with hk | hk
      · have := hg k hk
        omega
      · omega⟩)
    exact Kd.N_mono (Kd.N_far (p := ⟨g, 1, none⟩) (Kd.N_far (p := ⟨g, 0, none⟩) n1 (fun _ hk => hk.2) _) (fun _ hk => hk.2) _) (fun _ hk => hk.1)
end Go.Proofs.Ytfoagjdcgipcaaa.X
