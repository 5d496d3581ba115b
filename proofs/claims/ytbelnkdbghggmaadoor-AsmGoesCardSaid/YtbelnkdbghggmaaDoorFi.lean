/- Contract of asm.Find: the place of a mark. -/
import Derived.Test.YtbelnkdbghggmaaDoorPl
import Derived.Test.YtbelnkdbghggmaaDoorIe
namespace Go.Proofs.YtbelnkdbghggmaaDoor.X
open Go.RowKit Go.Shelf Go.Proofs.YtbelnkdbghggmaaDoorW.PrintWords Go.Proofs.YtbelnkdbghggmaaDoorW.PrintLast
attribute [local go_sem] Oper.semAt_some
set_option linter.unusedVariables false
set_option linter.unusedSimpArgs false
/-- A line that is the mark. -/
def hitF (m : ByteArray) (p : Int × S28) : Bool := !(p.2.f0.toList == ([] : List UInt8)) && (p.2.f0.toList == m.toList)
def findR (l : List S28) (m : ByteArray) : Int × Bool := match (placedL l 0).find? (hitF m) with
  | some p => (p.1, true)
  | none => (0, false)
set_option maxRecDepth 100000 in
set_option maxHeartbeats 8000000 in
theorem Find_any (A : Option Addr) (c : Nat) (xs : List S28) (m : ByteArray) (w : World) (hr : Kd.C k28 w A xs.length xs) :
    Calls Tryd.prog 10 #[.slice A xs.length c, .string m] w fun e_ w' => e_ = .returned (.tuple #[.int .i64 (findR xs m).1, .bool (findR xs m).2]) ∧ Below w.heap.size w w' := by
  have hplaced := fun n W => (callsIn_wide (n := n)).2 (placed_calls A xs.length c W)
  refine (callsIn_wide (n := 3)).1 ?_
  refine callsIn_of_wp_marks Tryd.func10 rfl trivial ?_ rfl
  simp only [Tryd.ntmps10, List.size_toArray, List.length_cons, List.length_nil, Nat.reduceAdd, Nat.reduceSub, Array.replicate_succ, Array.replicate_zero, List.push_toArray, List.append_toArray, List.nil_append, List.cons_append]
  gi_wp2_with (refine ⟨trivial, ?_⟩; gi_at_call 19; refine (hplaced _ _).mono ?_; rintro e_ w3 ⟨rfl, rfl⟩)
  obtain ⟨W3, hW3⟩ : ∃ W3, W3 = (((w.alloc (.cells #[.string m] 9)).alloc (.cells #[.int .i64 0] 3)).alloc (.cells #[.bool false] 4)).alloc (.cells #[.slice A xs.length c] 22) := ⟨_, rfl⟩
  rw [← hW3]
  have hsz : W3.heap.size = w.heap.size + 4 := by rw [hW3]; simp
  have hB : Below w.heap.size w W3 := by rw [hW3]; exact below_alloc (below_alloc (below_alloc (below_alloc (Below.refl _ w) _) _) _) _
  have hb0 : Boxed W3 w.heap.size 9 (.string m) := by rw [hW3]; exact blk_alloc (blk_alloc (blk_alloc (blk_new1 _ _ _ rfl) _) _) _
  have hb1 : Boxed W3 (w.heap.size + 1) 3 (.int .i64 0) := by rw [hW3]; exact blk_alloc (blk_alloc (blk_new1 _ _ _ (by simp)) _) _
  have hb2 : Boxed W3 (w.heap.size + 2) 4 (.bool false) := by rw [hW3]; exact blk_alloc (blk_new1 _ _ _ (by simp)) _
  have hb3 : W3.heap[w.heap.size + 3]? = some (.cells #[.slice A xs.length c] 22 (0, 0)) := by rw [hW3]; exact blk_new1 _ _ _ (by simp)
  have hseq := placed_stops 2 (by decide) (w.heap.size + 3) c w.heap.size (fun _ => False) A xs w W3 hr rfl hB hb3 (fun h => h) (fun i h => h.elim)
  clear hW3 hplaced hb3
  refine wpIn_rangeFunc_ownH rfl (by decide) (gf := 32) (lb := #[.pointer (some ⟨w.heap.size + 3, 0, none⟩)]) rfl trivial (enters_of Tryd.func32 (by kernel_rfl) rfl) hseq (fun h k => KeepT.trans h k) (KeepT.putObj (by omega)) (Below.refl _ _) (fun _ => rfl)
    (fun pre W => ((∀ p ∈ pre, hitF m p = false) ∧ Boxed W w.heap.size 9 (.string m) ∧ Boxed W (w.heap.size + 1) 3 (.int .i64 0) ∧ Boxed W (w.heap.size + 2) 4 (.bool false) ∧ w.heap.size + 4 ≤ W.heap.size) ∧ Below w.heap.size w W)
    (fun cd pre W => (cd = .ret ∧ (∃ (q : List (Int × S28)) (z : Int × S28), pre = q ++ [z] ∧ (∀ p ∈ q, hitF m p = false) ∧ hitF m z = true ∧ Boxed W (w.heap.size + 1) 3 (.int .i64 z.1)) ∧ Boxed W (w.heap.size + 2) 4 (.bool true)) ∧ Below w.heap.size w W)
    (OwnFrom.and (Own.from (fun s X Y row hs hg hr => ⟨hs.1, boxed_own (β := Unit) _ _ (fun _ => _) () X Y row hs.2.1 hg hr, boxed_own (β := Unit) _ _ (fun _ => _) () X Y row hs.2.2.1 hg hr, boxed_own (β := Unit) _ _ (fun _ => _) () X Y row hs.2.2.2.1 hg hr, Nat.le_trans hs.2.2.2.2 hg.size⟩) _) (ownFrom_below (Nat.le_refl _) (by omega)))
    (fun cd => OwnFrom.and (Own.from (fun s X Y row hs hg hr => ⟨hs.1, (let ⟨q, z, h1, h2, h3, h4⟩ := hs.2.1; ⟨q, z, h1, h2, h3, boxed_own (β := Unit) _ _ (fun _ => _) () X Y row h4 hg hr⟩), boxed_own (β := Unit) _ _ (fun _ => _) () X Y row hs.2.2 hg hr⟩) _) (ownFrom_below (Nat.le_refl _) (by omega)))
    ⟨⟨by simp, hb0, hb1, hb2, by omega⟩, hB⟩
    (fun x a' W => ∃ q : Nat, a' = { tmps := #[.slice A xs.length c, .string m, undef, .pointer (some ⟨w.heap.size, 0, none⟩), .pointer (some ⟨w.heap.size + 1, 0, none⟩), .pointer (some ⟨w.heap.size + 2, 0, none⟩), .int .i64 x.1, .pointer (some ⟨q, 0, none⟩), .slice A xs.length c, .func (.func 32) #[] #[.pointer (some ⟨w.heap.size + 3, 0, none⟩)], .int .i64 x.1, .agg (lineC x.2), undef, undef, undef, undef, undef, undef, undef, undef, undef, undef], defers := [] } ∧ W.heap[q]? = some (.cells (lineC x.2) 28 (0, 0)) ∧ w.heap.size + 4 ≤ q)
    (fun x a' => Own.from (fun s X Y row hs hg hr => (let ⟨q, h1, h2, h3⟩ := hs; ⟨q, h1, blk_own (β := Unit) q _ _ () X Y row h2 hg hr, h3⟩)) _) ?assign ?body ?done ?stop
  case assign =>
    intro l pre x W K hI hK
    obtain ⟨⟨hne, hv0, hv1, hv2, hsW⟩, hBW⟩ := hI
    unfold lineC
    gi_wp2
    exact hK _ _ (KeepsFrom.of_grownBy (World.grownBy_alloc W _ none) (fun j e => by cases e)) (KeepT.of_below (below_alloc (Below.refl _ _) _) (by omega)) ⟨⟨hne, hv0.kept (World.grownBy_alloc W _ none) (by simp), hv1.kept (World.grownBy_alloc W _ none) (by simp), hv2.kept (World.grownBy_alloc W _ none) (by simp), by simp; omega⟩, below_alloc hBW _⟩ ⟨W.heap.size, rfl, blk_new W _, by omega⟩
  case body =>
    rintro lp pre x a' W hl hex ⟨⟨hne, hv0, hv1, hv2, hsW⟩, hBW⟩ ⟨q, rfl, hq, hqn⟩ hlen
    have hq0 := blk_cell hq 0
    simp only [lineC, List.getElem?_toArray, List.getElem?_cons_zero] at hq0
    have hc0 := hv0.cell
    have hc1 := hv1.cell
    have hf1 := hv1.frozen
    have hc2 := hv2.cell
    have hf2 := hv2.frozen
    have hhit : hitF m x = (!(x.2.f0.toList == ([] : List UInt8)) && (x.2.f0.toList == m.toList)) := rfl
    clear hq hlen hex
    generalize x.2.f0 = s at *
    have HH := Lib.hid hhit
    have HV0 := Lib.hid hv0
    have HV1 := Lib.hid hv1
    have HV2 := Lib.hid hv2
    have HBW := Lib.hid hBW
    have HNE := Lib.hid hne
    clear hne hv0 hv1 hv2 hBW hhit
    by_cases he : s.toList = []
    · have he2 : s.toList.isEmpty = true := by rw [he]; rfl
      have HE : Hid (hitF m x = false) := Lib.hid (by rw [HH.out, he]; rfl)
      gi_wp2
      refine ⟨KeepsFrom.refl _ _, KeepT.refl _ _ _, ⟨fun p hp => ?_, HV0.out, HV1.out, HV2.out, hsW⟩, HBW.out⟩
      rcases List.mem_append.1 hp with hp | hp
      · exact HNE.out p hp
      · simp only [List.mem_singleton] at hp
        subst hp
        exact HE.out
    · have he2 : s.toList.isEmpty = false := by cases e : s.toList with | nil => exact absurd e he | cons a b => rfl
      have he3 : (s.toList == ([] : List UInt8)) = false := by rw [beq_eq_false_iff_ne]; exact he
      rcases hm : (s.toList == m.toList) with _ | _
      · have HE : Hid (hitF m x = false) := Lib.hid (by rw [HH.out, he3, hm]; rfl)
        have hm2 : ¬ s.toList = m.toList := beq_eq_false_iff_ne.1 hm
        clear he3
        gi_wp2
        refine ⟨KeepsFrom.refl _ _, KeepT.refl _ _ _, ⟨fun p hp => ?_, HV0.out, HV1.out, HV2.out, hsW⟩, HBW.out⟩
        rcases List.mem_append.1 hp with hp | hp
        · exact HNE.out p hp
        · simp only [List.mem_singleton] at hp
          subst hp
          exact HE.out
      · have HE : Hid (hitF m x = true) := Lib.hid (by rw [HH.out, he3, hm]; rfl)
        have hm2 : decide (s.toList = m.toList) = true := decide_eq_true (beq_iff_eq.1 hm)
        clear he3
        gi_wp2
        refine ⟨((KeepsOthers.setCell _ _ _).trans (KeepsOthers.setCell _ _ _)).from _, ⟨rfl, ⟨pre, x, rfl, HNE.out, HE.out, (HV1.out.set _).other (by omega) _⟩, (HV2.out.other (by omega) _).set _⟩, (HBW.out.setCell (p := ⟨w.heap.size + 1, 0, none⟩) (by simp) _).setCell (p := ⟨w.heap.size + 2, 0, none⟩) (by simp) _⟩
  case done =>
    rintro D ys W hD hS ⟨⟨hne, hv0, hv1, hv2, hsW⟩, hBW⟩ hK
    have hS' : ys = placedL xs 0 := hS
    subst hS'
    have hfin : findR xs m = (0, false) := by
      unfold findR
      rw [List.find?_eq_none.2 (fun p hp => by rw [hne p hp]; decide)]
    have hc1 := hv1.cell
    have hf1 := hv1.frozen
    have hc2 := hv2.cell
    have hf2 := hv2.frozen
    have HFIN := Lib.hid hfin
    clear hfin hne
    gi_wp2
    have hw1 : Boxed ((W.setCell ⟨w.heap.size + 1, 0, none⟩ (.int .i64 0)).setCell ⟨w.heap.size + 2, 0, none⟩ (.bool false)) (w.heap.size + 1) 3 (.int .i64 0) := (hv1.set _).other (by omega) _
    have hw2 : Boxed ((W.setCell ⟨w.heap.size + 1, 0, none⟩ (.int .i64 0)).setCell ⟨w.heap.size + 2, 0, none⟩ (.bool false)) (w.heap.size + 2) 4 (.bool false) := (hv2.other (by omega) _).set _
    have hK' := ((KeepsOthers.setCell W ⟨w.heap.size + 1, 0, none⟩ (.int .i64 0)).trans (KeepsOthers.setCell _ ⟨w.heap.size + 2, 0, none⟩ (.bool false))).same D _ hK rfl
    have hB' := (hBW.setCell (p := ⟨w.heap.size + 1, 0, none⟩) (by simp) (.int .i64 0)).setCell (p := ⟨w.heap.size + 2, 0, none⟩) (by simp) (.bool false)
    refine ⟨by simp, .inl ⟨_, _, rfl, run_takeDeferred hK', ?_⟩⟩
    have hc5 := cell_kept hw1.cell (grownBy_putObj' _ D (.deferred none)) (fun r e => by cases e; exact ⟨_, hK', rfl⟩)
    have hc6 := cell_kept hw2.cell (grownBy_putObj' _ D (.deferred none)) (fun r e => by cases e; exact ⟨_, hK', rfl⟩)
    refine ⟨.tuple #[.int .i64 0, .bool false], ?_, by rw [HFIN.out], hB'.trans (belowK_b (w := w) (Nat.le_refl _) _ D _ _ (by omega) hK' rfl rfl)⟩
    simp [results, Tryd.f10, go_sem, hc5, hc6]
  case stop =>
    rintro D cd pre W hD hpre ⟨⟨rfl, ⟨q, z, rfl, hnq, hz, hv1⟩, hv2⟩, hBW⟩ hK
    have hpre' : q ++ [z] <+: placedL xs 0 := hpre
    obtain ⟨t, ht⟩ := hpre'
    have hfin : findR xs m = (z.1, true) := by
      unfold findR
      rw [← ht, List.append_assoc, List.find?_append, List.find?_eq_none.2 (fun p hp => by rw [hnq p hp]; decide)]
      simp [hz]
    have HFIN := Lib.hid hfin
    clear hpre hfin ht hnq
    gi_wp2
    refine ⟨by simp, .inl ⟨_, _, rfl, run_takeDeferred hK, ?_⟩⟩
    have hc5 := cell_kept hv1.cell (grownBy_putObj' _ D (.deferred none)) (fun r e => by cases e; exact ⟨_, hK, rfl⟩)
    have hc6 := cell_kept hv2.cell (grownBy_putObj' _ D (.deferred none)) (fun r e => by cases e; exact ⟨_, hK, rfl⟩)
    refine ⟨.tuple #[.int .i64 z.1, .bool true], ?_, by rw [HFIN.out], hBW.trans (belowK_b (w := w) (Nat.le_refl _) W D _ _ (by omega) hK rfl rfl)⟩
    simp [results, Tryd.f10, go_sem, hc5, hc6]
def asm_Find.f (a0 : List S28) (a1 : ByteArray) : Option (Int × Bool) := some (findR a0 a1)
theorem asm_Find.calls (A0 : Option Addr) (c0 : Nat) (l0 : List S28) (a1 : ByteArray) (r1 : Int) (r2 : Bool) (w : World) (hr0 : Kd.C k28 w A0 l0.length l0) (hc0 : l0.length ≤ c0) (h : asm_Find.f l0 a1 = some (r1, r2)) :
    Calls Tryd.prog 10 #[.slice A0 l0.length c0, .string a1] w fun e w' => e = .returned (.tuple #[.int .i64 r1, .bool r2]) ∧ Below w.heap.size w w' := by
  have := Find_any A0 c0 l0 a1 w hr0
  rw [Option.some.inj h] at this
  exact this
end Go.Proofs.YtbelnkdbghggmaaDoor.X
