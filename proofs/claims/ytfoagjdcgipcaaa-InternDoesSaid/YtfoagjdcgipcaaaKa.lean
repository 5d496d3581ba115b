/- Contract of intern.Add in the form of the printed contracts; intern.Same in that form. -/
import Derived.Test.YtfoagjdcgipcaaaJy
namespace Go.Proofs.Ytfoagjdcgipcaaa.X
open Go.RowKit Go.Shelf Go.Proofs.YtfoagjdcgipcaaaW.PrintWords Go.Proofs.YtfoagjdcgipcaaaW.PrintLast
set_option linter.unusedVariables false
set_option linter.unusedSimpArgs false
theorem findIn_false (l0 : List (List S57)) (l : List S57) (zs : List Nat) : ∀ z, findIn l0 l zs = (z, false) → z = 0 := by
  induction zs with
  | nil => intro z h; simp [findIn] at h; exact h.symm
  | cons x r ih =>
    intro z h
    unfold findIn at h
    split at h
    · simp at h
    · exact ih z h
def intern_Add.g (l0_0 : List (List S57)) (l0_1 : List Int) (l1 : List S57) : Option (List (List S57) × List Int × Int × Int) :=
  if l0_0.length < 5864062014805 ∧ l0_1.length < 17592186044416 ∧ l1.length < 8796093022208 then
    (if (findIn l0_0 l1 (liveTo l0_1 (both l0_0 l0_1))).2 = true then
      (if 0 ≤ (findIn l0_0 l1 (liveTo l0_1 (both l0_0 l0_1))).1 ∧ (findIn l0_0 l1 (liveTo l0_1 (both l0_0 l0_1))).1 < l0_1.length then
        (if rd l0_1 (findIn l0_0 l1 (liveTo l0_1 (both l0_0 l0_1))).1 = 1073741824 then some (l0_0, l0_1, 0, 13)
         else some (l0_0, l0_1.set (findIn l0_0 l1 (liveTo l0_1 (both l0_0 l0_1))).1.toNat (wrap64 (rd l0_1 (findIn l0_0 l1 (liveTo l0_1 (both l0_0 l0_1))).1 + 1)), (findIn l0_0 l1 (liveTo l0_1 (both l0_0 l0_1))).1, 0))
      else none)
     else
      (if freeFrom l0_1 0 = 64 then some (l0_0, l0_1, 0, 6)
       else if freeFrom l0_1 0 = l0_1.length then (if l0_1.length ≤ l0_0.length then some ((l0_0 ++ [[]]).set l0_1.length l1, (l0_1 ++ [0]).set l0_1.length 1, l0_1.length, 0) else none)
       else if freeFrom l0_1 0 < l0_0.length then some (l0_0.set (freeFrom l0_1 0) l1, l0_1.set (freeFrom l0_1 0) 1, (freeFrom l0_1 0 : Nat), 0) else none))
  else none
def intern_Add.f (k : Nat) (l0_0 : List (List S57)) (l0_1 : List Int) (l1 : List S57) : Option (List (List S57) × List Int × Int × Int) :=
  (intern_good.f k l1).bind fun t => if t = true then intern_Add.g l0_0 l0_1 l1 else some (l0_0, l0_1, 0, 4)
theorem intern_Add.mono : ∀ a0 a1 a2 k, LeO (intern_Add.f k a0 a1 a2) (intern_Add.f (k + 1) a0 a1 a2) := by
  intro a0 a1 a2 k
  unfold intern_Add.f
  exact LeO.bind (intern_good.mono _ _) (fun _ => LeO.refl _)
theorem intern_Add.calls (k : Nat) (P0_0_ : Nat → Prop) (A0_0 : Option Addr) (c0_0 : Nat) (l0_0 : List (List S57)) (P0_1_ : Nat → Prop) (A0_1 : Option Addr) (c0_1 : Nat) (l0_1 : List Int) (A1 : Option Addr) (c1 : Nat) (l1 : List S57) (r1 : List (List S57)) (r2 : List Int) (r3 : Int) (r4 : Int) (w : World)
    (hs0_0 : Kd.V (Kd.slice 57 k57) 29 w w.heap.size (fun k_ => P0_0_ k_) (.slice A0_0 l0_0.length c0_0) l0_0) (hs0_1 : Kd.V (Kd.int .i64) 3 w w.heap.size (fun k_ => P0_1_ k_) (.slice A0_1 l0_1.length c0_1) l0_1) (hr1 : Kd.C k57 w A1 l1.length l1) (hc1 : l1.length ≤ c1) (h : intern_Add.f k l0_0 l0_1 l1 = some (r1, r2, r3, r4)) :
    Calls Try.prog 8 #[.agg #[.slice A0_0 l0_0.length c0_0, .slice A0_1 l0_1.length c0_1], .slice A1 l1.length c1] w fun e w' => ∃ v0_ v1_ : Value, e = .returned (.tuple #[.agg #[v0_, v1_], .int .i64 r3, .int .i64 r4]) ∧ Kd.V (Kd.slice 57 k57) 29 w' w.heap.size (fun k_ => ((P0_0_ k_ ∨ P0_1_ k_) ∨ w.heap.size ≤ k_)) v0_ r1 ∧ Kd.V (Kd.int .i64) 3 w' w.heap.size (fun k_ => ((P0_0_ k_ ∨ P0_1_ k_) ∨ w.heap.size ≤ k_)) v1_ r2 ∧ Below w.heap.size w w' := by
  unfold intern_Add.f at h
  obtain ⟨t, hg, h⟩ := Option.bind_eq_some_iff.1 h
  cases t with
  | false =>
    rw [if_neg (by decide)] at h
    simp only [Option.some.injEq, Prod.mk.injEq] at h
    obtain ⟨rfl, rfl, rfl, rfl⟩ := h
    exact Add_bad k P0_0_ P0_1_ A0_0 A0_1 A1 c0_0 c0_1 c1 l0_0 l0_1 l1 w hs0_0 hs0_1 hr1 hc1 hg
  | true =>
    rw [if_pos rfl] at h
    unfold intern_Add.g at h
    by_cases hl : l0_0.length < 5864062014805 ∧ l0_1.length < 17592186044416 ∧ l1.length < 8796093022208
    · rw [if_pos hl] at h
      obtain ⟨h0, h1, h2⟩ := hl
      rcases hq : findIn l0_0 l1 (liveTo l0_1 (both l0_0 l0_1)) with ⟨z, b⟩
      rw [hq] at h
      dsimp only at h
      cases b with
      | true =>
        rw [if_pos rfl] at h
        by_cases hz : 0 ≤ z ∧ z < l0_1.length
        · rw [if_pos hz] at h
          obtain ⟨z, rfl⟩ : ∃ m : Nat, z = (m : Int) := ⟨z.toNat, by omega⟩
          have hz' : z < l0_1.length := by omega
          by_cases hr : rd l0_1 (z : Int) = 1073741824
          · rw [if_pos hr] at h
            simp only [Option.some.injEq, Prod.mk.injEq] at h
            obtain ⟨rfl, rfl, rfl, rfl⟩ := h
            obtain ⟨ad, e, _⟩ := Kd.at_int (Kd.V_reads' hs0_1).2.2 (z : Int) (by omega) (by omega)
            cases e
            exact Add_most k P0_0_ P0_1_ A0_0 A1 ad c0_0 c0_1 c1 l0_0 l0_1 l1 w hs0_0 hs0_1 hr1 hc1 hg h0 h1 z hz' hq hr
          · rw [if_neg hr] at h
            simp only [Option.some.injEq, Prod.mk.injEq] at h
            obtain ⟨rfl, rfl, rfl, rfl⟩ := h
            obtain ⟨ad, e, _⟩ := Kd.at_int (Kd.V_reads' hs0_1).2.2 (z : Int) (by omega) (by omega)
            cases e
            exact Add_more k P0_0_ P0_1_ A0_0 A1 ad c0_0 c0_1 c1 l0_0 l0_1 l1 w hs0_0 hs0_1 hr1 hc1 hg h0 h1 z hz' hq _ rfl hr
        · rw [if_neg hz] at h
          cases h
      | false =>
        rw [if_neg (by decide)] at h
        obtain rfl := findIn_false _ _ _ _ hq
        have hle := (freeFrom_le l0_1 0).2
        by_cases h64 : freeFrom l0_1 0 = 64
        · rw [if_pos h64] at h
          simp only [Option.some.injEq, Prod.mk.injEq] at h
          obtain ⟨rfl, rfl, rfl, rfl⟩ := h
          exact Add_full k P0_0_ P0_1_ A0_0 A0_1 A1 c0_0 c0_1 c1 l0_0 l0_1 l1 w hs0_0 hs0_1 hr1 hc1 hg h0 h1 hq h64
        · rw [if_neg h64] at h
          by_cases he : freeFrom l0_1 0 = l0_1.length
          · rw [if_pos he] at h
            by_cases hll : l0_1.length ≤ l0_0.length
            · rw [if_pos hll] at h
              simp only [Option.some.injEq, Prod.mk.injEq] at h
              obtain ⟨rfl, rfl, rfl, rfl⟩ := h
              exact Add_end k P0_0_ P0_1_ A0_0 A0_1 A1 c0_0 c0_1 c1 l0_0 l0_1 l1 w hs0_0 hs0_1 hr1 hc1 hg h0 h1 hq he (by omega) hll h2
            · rw [if_neg hll] at h
              cases h
          · rw [if_neg he] at h
            by_cases hll : freeFrom l0_1 0 < l0_0.length
            · rw [if_pos hll] at h
              simp only [Option.some.injEq, Prod.mk.injEq] at h
              obtain ⟨rfl, rfl, rfl, rfl⟩ := h
              exact Add_mid k P0_0_ P0_1_ A0_0 A0_1 A1 c0_0 c0_1 c1 l0_0 l0_1 l1 w hs0_0 hs0_1 hr1 hc1 hg h0 h1 hq _ rfl h64 (by omega) hll h2
            · rw [if_neg hll] at h
              cases h
    · rw [if_neg hl] at h
      cases h
def intern_Same.f (l0_0 : List (List S57)) (l0_1 : List Int) (l1_0 : List (List S57)) (l1_1 : List Int) : Option Bool := some (decide (l0_1 = l1_1) && decide (l0_0 = l1_0))
theorem intern_Same.calls (A0_0 : Option Addr) (c0_0 : Nat) (l0_0 : List (List (S57))) (A0_1 : Option Addr) (c0_1 : Nat) (l0_1 : List Int) (A1_0 : Option Addr) (c1_0 : Nat) (l1_0 : List (List (S57))) (A1_1 : Option Addr) (c1_1 : Nat) (l1_1 : List Int) (r : Bool) (w : World) (hr0_0 : Kd.C (Kd.slice 57 k57) w A0_0 l0_0.length l0_0) (hc0_0 : l0_0.length ≤ c0_0) (hr0_1 : Kd.C (Kd.int .i64) w A0_1 l0_1.length l0_1) (hc0_1 : l0_1.length ≤ c0_1) (hr1_0 : Kd.C (Kd.slice 57 k57) w A1_0 l1_0.length l1_0) (hc1_0 : l1_0.length ≤ c1_0) (hr1_1 : Kd.C (Kd.int .i64) w A1_1 l1_1.length l1_1) (hc1_1 : l1_1.length ≤ c1_1) (h : intern_Same.f l0_0 l0_1 l1_0 l1_1 = some r) :
    Calls Try.prog 15 #[.agg #[.slice A0_0 l0_0.length c0_0, .slice A0_1 l0_1.length c0_1], .agg #[.slice A1_0 l1_0.length c1_0, .slice A1_1 l1_1.length c1_1]] w fun e w' => e = .returned (.bool r) ∧ Below w.heap.size w w' := by
  obtain rfl := Option.some.inj h
  exact Same_any A0_0 A0_1 A1_0 A1_1 c0_0 c0_1 c1_0 c1_1 l0_0 l0_1 l1_0 l1_1 w hr0_0 hc0_0 hr0_1 hc0_1 hr1_0 hc1_0 hr1_1 hc1_1
end Go.Proofs.Ytfoagjdcgipcaaa.X
