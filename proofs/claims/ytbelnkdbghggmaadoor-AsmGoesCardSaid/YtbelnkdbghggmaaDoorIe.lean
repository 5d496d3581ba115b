/- Contract of inst.Fit. -/
import Derived.Test.YtbelnkdbghggmaaDoorId
namespace Go.Proofs.YtbelnkdbghggmaaDoor.X
open Go.RowKit Go.Shelf Go.Proofs.YtbelnkdbghggmaaDoorW.PrintWords Go.Proofs.YtbelnkdbghggmaaDoorW.PrintLast
attribute [local go_sem] Oper.semAt_some
set_option linter.unusedVariables false
set_option linter.unusedSimpArgs false
/-- A part that can't be. -/
def bad (op a b c e : Int) (k : Nat) : Bool := (!(uses op k) && (num a b c e k != 0)) || (letter k != 105 && (decide (num a b c e k < 0) || decide (num a b c e k ≥ 16)))
def fitP (op a b c e : Int) : Bool := (List.range 4).all (fun k => !(bad op a b c e k))
theorem blk_new1 (w : World) (o : Obj) (n : Nat) (hn : n = w.heap.size) : (w.alloc o).heap[n]? = some o := hn ▸ blk_new w o
set_option maxRecDepth 100000 in
set_option maxHeartbeats 8000000 in
theorem Fit_in (op a b c e : Int) (hop : 0 ≤ op ∧ op < 26) (he : -2147483648 ≤ e ∧ e ≤ 2147483647) (w : World) :
    Calls Tryd.prog 27 #[.agg #[.int .i64 op, .int .i64 a, .int .i64 b, .int .i64 c, .int .i32 e]] w fun e_ w' => e_ = .returned (.bool (fitP op a b c e)) ∧ Below w.heap.size w w' := by
  have hparts := fun n W => (callsIn_wide (n := n)).2 (parts_calls #[.int .i64 op, .int .i64 a, .int .i64 b, .int .i64 c, .int .i32 e] W)
  have hknown := fun n W => (callsIn_wide (n := n)).2 (inst_known.calls op true W (by unfold inst_known.f; rw [if_pos hop.1, decide_eq_true hop.2]))
  refine (callsIn_wide (n := 3)).1 ?_
  refine callsIn_of_wp_marks Tryd.func27 rfl trivial ?_ rfl
  simp only [Tryd.ntmps27, List.size_toArray, List.length_cons, List.length_nil, Nat.reduceAdd, Nat.reduceSub, Array.replicate_succ, Array.replicate_zero, List.push_toArray, List.append_toArray, List.nil_append, List.cons_append]
  clear hop
  gi_wp2_with (first | (refine ⟨trivial, ?_⟩; gi_at_call 44; refine (hknown _ _).mono ?_; rintro e_ w2 ⟨rfl, ⟨nd, rfl⟩⟩) | (refine ⟨trivial, ?_⟩; gi_at_call 29; refine (hparts _ _).mono ?_; rintro e_ w3 ⟨rfl, rfl⟩))
  obtain ⟨W3, hW3⟩ : ∃ W3, W3 = (((w.alloc (.cells #[.int .i64 op, .int .i64 a, .int .i64 b, .int .i64 c, .int .i32 e] 26)).alloc (.cells #[.bool false] 4)).drewN nd).alloc (.cells #[.int .i64 op, .int .i64 a, .int .i64 b, .int .i64 c, .int .i32 e] 26) := ⟨_, rfl⟩
  rw [← hW3]
  have hsz : W3.heap.size = w.heap.size + 3 := by rw [hW3]; simp
  have hB : Below w.heap.size w W3 := by rw [hW3]; exact below_alloc (pw_below_drewN (below_alloc (below_alloc (Below.refl _ w) _) _) _) _
  have hb1 : Boxed W3 (w.heap.size + 1) 4 (.bool false) := by rw [hW3]; exact blk_alloc (blk_drewN (blk_new1 _ _ _ (by simp)) _) _
  have hbB : W3.heap[w.heap.size + 1 + 1]? = some (.cells #[.int .i64 op, .int .i64 a, .int .i64 b, .int .i64 c, .int .i32 e] 26 (0, 0)) := by rw [hW3]; exact blk_new1 _ _ _ (by simp)
  have hseq := parts_stops 2 (by decide) (w.heap.size + 1 + 1) (w.heap.size + 1) w.heap.size op a b c e he W3 hbB (by omega) (by omega) (by omega)
  clear hW3 hparts hknown hbB
  refine wpIn_rangeFunc_ownH rfl (by decide) (gf := 45) (lb := #[.pointer (some ⟨w.heap.size + 1 + 1, 0, none⟩)]) rfl trivial (enters_of Tryd.func45 (by kernel_rfl) rfl) hseq (fun h k => KeepC.trans h k) (KeepC.putObj (by omega)) (Below.refl _ _) (fun _ => rfl)
    (fun pre W => ((∀ i ∈ pre, bad op a b c e i = false) ∧ Boxed W (w.heap.size + 1) 4 (.bool false) ∧ w.heap.size + 3 ≤ W.heap.size) ∧ Below w.heap.size w W)
    (fun cd pre W => (cd = .ret ∧ (∃ (q : List Nat) (z : Nat), pre = q ++ [z] ∧ bad op a b c e z = true) ∧ Boxed W (w.heap.size + 1) 4 (.bool false)) ∧ Below w.heap.size w W)
    (OwnFrom.and (Own.from (fun s X Y row hs hg hr => ⟨hs.1, boxed_own (β := Unit) _ _ (fun _ => _) () X Y row hs.2.1 hg hr, Nat.le_trans hs.2.2 hg.size⟩) _) (ownFrom_below (Nat.le_refl _) (by omega)))
    (fun cd => OwnFrom.and (Own.from (fun s X Y row hs hg hr => ⟨hs.1, hs.2.1, boxed_own (β := Unit) _ _ (fun _ => _) () X Y row hs.2.2 hg hr⟩) _) (ownFrom_below (Nat.le_refl _) (by omega)))
    ⟨⟨by simp, hb1, by omega⟩, hB⟩
    (fun x a' W => ∃ q : Nat, a' = { tmps := #[.agg #[.int .i64 op, .int .i64 a, .int .i64 b, .int .i64 c, .int .i32 e], .pointer (some ⟨w.heap.size, 0, none⟩), .pointer (some ⟨w.heap.size + 1, 0, none⟩), .pointer (some ⟨q, 0, none⟩), .pointer (some ⟨w.heap.size, 0, none⟩), .int .i64 op, .bool true, .bool false, .agg #[.int .i64 op, .int .i64 a, .int .i64 b, .int .i64 c, .int .i32 e], .func (.func 45) #[] #[.pointer (some ⟨w.heap.size + 1 + 1, 0, none⟩)], .agg #[.int .u8 (letter x), .int .i64 (num a b c e x), .bool (uses op x)], undef, undef, undef, undef, undef, undef, undef, undef, undef, undef, undef, undef, undef, undef, undef, undef, undef, undef, undef, undef, undef, undef, undef], defers := [] } ∧ W.heap[q]? = some (.cells #[.int .u8 (letter x), .int .i64 (num a b c e x), .bool (uses op x)] 82 (0, 0)) ∧ q ≠ w.heap.size + 1)
    (fun x a' => Own.from (fun s X Y row hs hg hr => (let ⟨q, h1, h2, h3⟩ := hs; ⟨q, h1, blk_own (β := Unit) q _ _ () X Y row h2 hg hr, h3⟩)) _) ?assign ?body ?done ?stop
  case assign =>
    intro l pre x W K hI hK
    obtain ⟨⟨hne, hv, hsW⟩, hBW⟩ := hI
    unfold partV
    gi_wp2
    exact hK _ _ (KeepsFrom.of_grownBy (World.grownBy_alloc W _ none) (fun j e => by cases e)) (KeepC.of_below (below_alloc (Below.refl _ _) _) (by omega)) ⟨⟨hne, hv.kept (World.grownBy_alloc W _ none) (by simp), by simp; omega⟩, below_alloc hBW _⟩ ⟨W.heap.size, rfl, blk_new W _, by omega⟩
  case body =>
    rintro lp pre x a' W hl hex ⟨⟨hne, hv, hsW⟩, hBW⟩ ⟨q, rfl, hq, hqn⟩ hlen
    have hq0 := blk_cell hq 0
    have hq1 := blk_cell hq 1
    have hq2 := blk_cell hq 2
    simp only [List.getElem?_toArray, List.getElem?_cons_zero, List.getElem?_cons_succ] at hq0 hq1 hq2
    have hc := hv.cell
    have hf := hv.frozen
    have hbad : bad op a b c e x = ((!(uses op x) && (num a b c e x != 0)) || (letter x != 105 && (decide (num a b c e x < 0) || decide (num a b c e x ≥ 16)))) := rfl
    clear hq hlen hex
    generalize uses op x = u at *
    generalize num a b c e x = nn at *
    generalize letter x = L at *
    have HBAD := Lib.hid hbad
    clear hbad
    have HV := Lib.hid hv
    have HBW := Lib.hid hBW
    have HNE := Lib.hid hne
    clear hne hv hBW
    cases u <;> by_cases h0 : nn = 0 <;> by_cases hL : L = 105 <;> by_cases h1 : nn < 0 <;> by_cases h2 : nn ≥ 16
    all_goals first | (exfalso; omega) | skip
    all_goals
      gi_wp2
      first
      | (refine ⟨KeepsFrom.refl _ _, KeepC.refl _ _ _, ⟨fun i hi => ?_, HV.out, hsW⟩, HBW.out⟩; rcases List.mem_append.1 hi with hi | hi; exact HNE.out i hi; simp only [List.mem_singleton] at hi; subst hi; rw [HBAD.out]; simp [h0, hL, h1, h2]; done)
      | (refine ⟨(KeepsOthers.setCell _ _ _).from _, ⟨rfl, ⟨pre, x, rfl, ?_⟩, HV.out.set _⟩, HBW.out.setCell (p := ⟨w.heap.size + 1, 0, none⟩) (by simp) _⟩; rw [HBAD.out]; simp [h0, hL, h1, h2]; done)
      | (refine ⟨(KeepsOthers.setCell _ _ _).from _, ⟨rfl, ⟨pre, x, rfl, ?_⟩, HV.out.set _⟩, HBW.out.setCell (p := ⟨w.heap.size + 1, 0, none⟩) (by simp) _⟩; rw [HBAD.out]; simp [h0, hL, h1, h2]; omega)
  case done =>
    rintro D ys W hD hS ⟨⟨hne, hv, hsW⟩, hBW⟩ hK
    have hS' : ys = List.range 4 := hS
    subst hS'
    have hfin : fitP op a b c e = true := by
      unfold fitP
      rw [List.all_eq_true]
      intro k hk
      rw [hne k hk]
      rfl
    have hc := hv.cell
    have hf := hv.frozen
    gi_wp2
    have hw := hv.set (.bool true)
    have hK' := (KeepsOthers.setCell W ⟨w.heap.size + 1, 0, none⟩ (.bool true)).same D _ hK rfl
    have hB' := hBW.setCell (p := ⟨w.heap.size + 1, 0, none⟩) (by simp) (.bool true)
    refine ⟨by simp, .inl ⟨_, _, rfl, run_takeDeferred hK', ?_⟩⟩
    have hc5 := cell_kept hw.cell (grownBy_putObj' _ D (.deferred none)) (fun r e => by cases e; exact ⟨_, hK', rfl⟩)
    refine ⟨.bool true, ?_, by first | rfl | rw [hfin], hB'.trans (belowK_b (w := w) (Nat.le_refl _) _ D _ _ (by omega) hK' rfl rfl)⟩
    simp [results, Tryd.f27, go_sem, hc5]
  case stop =>
    rintro D cd pre W hD hpre ⟨⟨rfl, ⟨q, z, hqz, hbz⟩, hv⟩, hBW⟩ hK
    have hpre' : pre <+: List.range 4 := hpre
    obtain ⟨t, ht⟩ := hpre'
    have hfin : fitP op a b c e = false := by
      unfold fitP
      rw [List.all_eq_false]
      exact ⟨z, by rw [← ht, hqz]; simp, by rw [hbz]; decide⟩
    clear hpre
    gi_wp2
    refine ⟨by simp, .inl ⟨_, _, rfl, run_takeDeferred hK, ?_⟩⟩
    have hc5 := cell_kept hv.cell (grownBy_putObj' _ D (.deferred none)) (fun r e => by cases e; exact ⟨_, hK, rfl⟩)
    refine ⟨.bool false, ?_, by first | rfl | rw [hfin], hBW.trans (belowK_b (w := w) (Nat.le_refl _) W D _ _ (by omega) hK rfl rfl)⟩
    simp [results, Tryd.f27, go_sem, hc5]
end Go.Proofs.YtbelnkdbghggmaaDoor.X
