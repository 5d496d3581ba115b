/- Contracts of intern.Drop and intern.Get in the form of the printed contracts. -/
import Derived.Test.YtfoagjdcgipcaaaKb
namespace Go.Proofs.Ytfoagjdcgipcaaa.X
open Go.RowKit Go.Shelf Go.Proofs.YtfoagjdcgipcaaaW.PrintWords Go.Proofs.YtfoagjdcgipcaaaW.PrintLast
set_option linter.unusedVariables false
set_option linter.unusedSimpArgs false
theorem V_off {α : Type} {d : Kd α} {e base n c : Nat} {W : World} {ok : Nat → Prop} {ad : Addr} {xs : List α} (h : Kd.V d e W base ok (.slice (some ad) n c) xs) (hn : 0 < xs.length) (hs : 0 < d.sz) : ok ad.block := by
  obtain ⟨A, c', hv, hl, hf⟩ := h
  injection hv with h1 h2 h3
  exact Kd.F_in hf h1.symm hn hs
/-- The labels behind a drop. -/
def dropLabs (l0 : List (List S57)) (z : Nat) (cc : Int) : List (List S57) := if cc = 0 then l0.set z [] else l0
def intern_Drop.g (l0_0 : List (List S57)) (l0_1 : List Int) (z : Nat) (cc : Int) : Option (List (List S57) × List Int × Int) :=
  if l0_0.length < 5864062014805 ∧ l0_1.length < 17592186044416 ∧ (cc = 0 → z < l0_0.length) ∧ trimTo (l0_1.set z cc) l0_1.length ≤ l0_0.length then
    some ((dropLabs l0_0 z cc).take (trimTo (l0_1.set z cc) l0_1.length), (l0_1.set z cc).take (trimTo (l0_1.set z cc) l0_1.length), 0)
  else none
def intern_Drop.f (l0_0 : List (List S57)) (l0_1 : List Int) (a1 : Int) : Option (List (List S57) × List Int × Int) :=
  if 0 ≤ a1 ∧ a1 < l0_1.length ∧ rd l0_1 a1 ≠ 0 then intern_Drop.g l0_0 l0_1 a1.toNat (wrap64 (rd l0_1 a1 - 1)) else some (l0_0, l0_1, 1)
theorem intern_Drop.calls (P0_0_ : Nat → Prop) (A0_0 : Option Addr) (c0_0 : Nat) (l0_0 : List (List (S57))) (P0_1_ : Nat → Prop) (A0_1 : Option Addr) (c0_1 : Nat) (l0_1 : List Int) (a1 : Int) (r1 : List (List (S57))) (r2 : List Int) (r3 : Int) (w : World) (hs0_0 : Kd.V (Kd.slice 57 k57) 29 w w.heap.size (fun k_ => P0_0_ k_) (.slice A0_0 l0_0.length c0_0) l0_0) (hs0_1 : Kd.V (Kd.int .i64) 3 w w.heap.size (fun k_ => P0_1_ k_) (.slice A0_1 l0_1.length c0_1) l0_1) (h : intern_Drop.f l0_0 l0_1 a1 = some (r1, r2, r3)) :
    Calls Try.prog 9 #[.agg #[.slice A0_0 l0_0.length c0_0, .slice A0_1 l0_1.length c0_1], .int .i64 a1] w fun e w' => ∃ v0_ v1_ : Value, e = .returned (.tuple #[.agg #[v0_, v1_], .int .i64 r3]) ∧ Kd.V (Kd.slice 57 k57) 29 w' w.heap.size (fun k_ => ((P0_0_ k_ ∨ P0_1_ k_) ∨ w.heap.size ≤ k_)) v0_ r1 ∧ Kd.V (Kd.int .i64) 3 w' w.heap.size (fun k_ => ((P0_0_ k_ ∨ P0_1_ k_) ∨ w.heap.size ≤ k_)) v1_ r2 ∧ Below w.heap.size w w' := by
  unfold intern_Drop.f at h
  by_cases hh : 0 ≤ a1 ∧ a1 < l0_1.length ∧ rd l0_1 a1 ≠ 0
  · rw [if_pos hh] at h
    obtain ⟨h0, h1, h2⟩ := hh
    obtain ⟨z, rfl⟩ : ∃ m : Nat, a1 = (m : Int) := ⟨a1.toNat, by omega⟩
    unfold intern_Drop.g at h
    simp only [Int.toNat_natCast] at h
    split at h
    · rename_i hb
      obtain ⟨b0, b1, b2, b3⟩ := hb
      simp only [Option.some.injEq, Prod.mk.injEq] at h
      obtain ⟨rfl, rfl, rfl⟩ := h
      exact Drop_do P0_0_ P0_1_ A0_0 A0_1 c0_0 c0_1 l0_0 l0_1 w hs0_0 hs0_1 z (by omega) _ rfl h2 _ rfl b0 b1 _ rfl b2 _ rfl b3
    · cases h
  · rw [if_neg hh] at h
    simp only [Option.some.injEq, Prod.mk.injEq] at h
    obtain ⟨rfl, rfl, rfl⟩ := h
    exact Drop_not P0_0_ P0_1_ A0_0 A0_1 c0_0 c0_1 l0_0 l0_1 a1 w hs0_0 hs0_1 (by simpa using hh)
def intern_Get.f (l0_0 : List (List S57)) (l0_1 : List Int) (a1 : Int) : Option (List S57 × Int) :=
  if 0 ≤ a1 ∧ a1 < l0_1.length ∧ rd l0_1 a1 ≠ 0 then (if a1 < l0_0.length then (slices_ClonePair.f (rd_L3 l0_0 a1)).bind fun t => some (t, 0) else none) else some ([], 1)
set_option maxRecDepth 100000 in
set_option maxHeartbeats 8000000 in
theorem intern_Get.calls (A0_0 : Option Addr) (c0_0 : Nat) (l0_0 : List (List (S57))) (A0_1 : Option Addr) (c0_1 : Nat) (l0_1 : List Int) (a1 : Int) (r1 : List (S57)) (r2 : Int) (w : World) (hr0_0 : Kd.C (Kd.slice 57 k57) w A0_0 l0_0.length l0_0) (hc0_0 : l0_0.length ≤ c0_0) (hr0_1 : Kd.C (Kd.int .i64) w A0_1 l0_1.length l0_1) (hc0_1 : l0_1.length ≤ c0_1) (h : intern_Get.f l0_0 l0_1 a1 = some (r1, r2)) :
    Calls Try.prog 20 #[.agg #[.slice A0_0 l0_0.length c0_0, .slice A0_1 l0_1.length c0_1], .int .i64 a1] w fun e w' => ∃ v0_ : Value, e = .returned (.tuple #[v0_, .int .i64 r2]) ∧ Kd.R k57 57 w' w.heap.size (fun _ => True) v0_ r1 ∧ Below w.heap.size w w' := by
  have HB := Q4 (Q8 (Q8 (Below.refl w.heap.size w) (.cells #[.slice A0_0 l0_0.length c0_0, .slice A0_1 l0_1.length c0_1] 27)) (.cells #[.slice A0_0 l0_0.length c0_0, .slice A0_1 l0_1.length c0_1] 60))
  have K0 : ((w.alloc (.cells #[.slice A0_0 l0_0.length c0_0, .slice A0_1 l0_1.length c0_1] 27)).alloc (.cells #[.slice A0_0 l0_0.length c0_0, .slice A0_1 l0_1.length c0_1] 60)).heap[w.heap.size]? = some (.cells #[.slice A0_0 l0_0.length c0_0, .slice A0_1 l0_1.length c0_1] 27 (0, 0)) := Q7 (blk_new w _) _
  have KG : ((w.alloc (.cells #[.slice A0_0 l0_0.length c0_0, .slice A0_1 l0_1.length c0_1] 27)).alloc (.cells #[.slice A0_0 l0_0.length c0_0, .slice A0_1 l0_1.length c0_1] 60)).heap[w.heap.size + 1]? = some (.cells #[.slice A0_0 l0_0.length c0_0, .slice A0_1 l0_1.length c0_1] 60 (0, 0)) := blk_new1 _ _ _ (by simp)
  have hsz : ((w.alloc (.cells #[.slice A0_0 l0_0.length c0_0, .slice A0_1 l0_1.length c0_1] 27)).alloc (.cells #[.slice A0_0 l0_0.length c0_0, .slice A0_1 l0_1.length c0_1] 60)).heap.size = w.heap.size + 2 := by simp
  have HR0 := Q4 hr0_0
  have HR1 := Q4 hr0_1
  unfold intern_Get.f at h
  by_cases hh : 0 ≤ a1 ∧ a1 < l0_1.length ∧ rd l0_1 a1 ≠ 0
  · rw [if_pos hh] at h
    have hd : decide (0 ≤ a1 ∧ a1 < l0_1.length ∧ rd l0_1 a1 ≠ 0) = true := decide_eq_true hh
    have HAS := Q4 hd
    obtain ⟨h0, h1, h2⟩ := hh
    by_cases hl : a1 < l0_0.length
    · rw [if_pos hl] at h
      obtain ⟨t, ht, h⟩ := Option.bind_eq_some_iff.1 h
      simp only [Option.some.injEq, Prod.mk.injEq] at h
      obtain ⟨rfl, rfl⟩ := h
      have HCL := Q4 ht
      obtain ⟨ad, A, c, e, hcx, hlx, hrx⟩ := at_L3 hr0_0 a1 h0 hl
      cases e
      have HX := Q4 hrx
      have hx1 := pw_cell_below HB.out hcx
      have p0 := eq_true h0
      have p1 := eq_true hl
      clear hd hr0_0 hr0_1 h0 h1 h2 hl ht hrx
      go_enter Try.func20, Try.ntmps20
      go_wp2_with (first | (go_at_call 30; (with_reducible refine (has_any (w.heap.size + 1) (.slice (some ad) l0_0.length c0_0) A0_1 c0_1 l0_1 a1 _ KG ?s1 hc0_1).mono ?_); (case s1 => exact Kd.C_below HR1.out HB.out); rw [HAS.out]; rintro e w1 ⟨rfl, hb⟩; have KK0 := blk_below K0 hb; have HB1 := Q4 (below_step HB.out hb); have hd0 := blk_cell KK0 0; have hd1 := blk_cell KK0 1; have hx2 := pw_cell_below HB1.out hcx; simp only [List.getElem?_toArray, List.getElem?_cons_zero, List.getElem?_cons_succ] at hd0 hd1; clear hb) | (go_at_call 29; (with_reducible refine (slices_ClonePair.calls A c _ t _ ?s1 hlx HCL.out).mono ?_); (case s1 => exact Kd.C_below HX.out HB1.out); rintro e w2 ⟨vl, rfl, ho, hb⟩; have HO := Q4 ho; have HB2 := Q4 (below_step HB1.out hb); have hs2 := HB1.out.size; clear ho hb))
      go_ret2
      exact ⟨_, rfl, Kd.R_lower HO.out hs2, HB2.out⟩
    · rw [if_neg hl] at h
      cases h
  · rw [if_neg hh] at h
    simp only [Option.some.injEq, Prod.mk.injEq] at h
    obtain ⟨rfl, rfl⟩ := h
    have HAS := Q4 (decide_eq_false hh)
    clear hh hr0_0 hr0_1
    go_enter Try.func20, Try.ntmps20
    go_wp2_with (go_at_call 30; (with_reducible refine (has_any (w.heap.size + 1) (.slice A0_0 l0_0.length c0_0) A0_1 c0_1 l0_1 a1 _ KG ?s1 hc0_1).mono ?_); (case s1 => exact Kd.C_below HR1.out HB.out); rw [HAS.out]; rintro e w1 ⟨rfl, hb⟩; have HB1 := Q4 (below_step HB.out hb); clear hb)
    go_ret2
    exact ⟨_, rfl, Kd.R_nil _ _ _ _ _, HB1.out⟩
end Go.Proofs.Ytfoagjdcgipcaaa.X
