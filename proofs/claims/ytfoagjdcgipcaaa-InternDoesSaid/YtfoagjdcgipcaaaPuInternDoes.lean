/- Plain law of InternDoes. -/
import Derived.Test.YtfoagjdcgipcaaaPuJ
import Derived.Test.YtfoagjdcgipcaaaXx14
namespace Go.Proofs.Ytfoagjdcgipcaaa.X
open Go.RowKit Go.Proofs.YtfoagjdcgipcaaaW.PrintWords Go.Proofs.YtfoagjdcgipcaaaW.PrintLast
set_option linter.unusedVariables false
set_option linter.unusedSimpArgs false
namespace Tb
theorem fit_small {l0 : List (List S57)} {l1 : List Int} (h : FitT l0 l1) : l0.length ≤ 1000 ∧ l1.length ≤ 1000 ∧ ∀ i : Nat, (rd_L3 l0 (i : Int)).length ≤ 1000 := by
  have hle := h.le
  have hl := h.len
  refine ⟨by omega, by omega, fun i => ?_⟩
  rcases Nat.lt_or_ge i l1.length with hi | hi
  · have := goodB_len (h.each i hi).2.2.1
    omega
  · rw [rdL_out l0 i (by omega)]; simp
theorem iAdd (l0 : List (List S57)) (l1 : List Int) (l : List S57) (h : FitT l0 l1) (hl1 : l.length ≤ 1000) (k : Nat) (hk : 3000 ≤ k) :
    ∃ r0 r1 r2 r3, intern_Add.f k l0 l1 l = some (r0, r1, r2, r3) ∧ FitT r0 r1 := by
  have hle := h.le
  unfold intern_Add.f
  rw [good_eq l hl1 k (by omega), Option.bind_some]
  by_cases hg : goodB l = true
  · rw [if_pos hg]
    rcases hq : F l0 l1 l with ⟨z, b⟩
    cases b with
    | true =>
      obtain ⟨i, rfl, hi, hc, hL⟩ := F_true h.len hq
      have hub := (h.each i hi).2.1
      by_cases hm : rd l1 (i : Int) = 1073741824
      · exact ⟨_, _, _, _, add_most h hg hc hL hm, h⟩
      · obtain ⟨r0, r1, hr, hp⟩ := add_found h hg hc hL (by omega)
        exact ⟨_, _, _, _, hr, hp.fit h hg (by omega) (by omega) (by omega) (.inl ⟨hc, hL⟩)⟩
    | false =>
      obtain ⟨rfl, hn⟩ := F_false h.len hq
      have hfl := (freeFrom_le l1 0).2
      by_cases hf : freeFrom l1 0 = 64
      · exact ⟨_, _, _, _, add_full h hg hq hf, h⟩
      · obtain ⟨r0, r1, hr, hp⟩ := add_new h hg hq hf
        have hz0 := free_zero l1
        exact ⟨_, _, _, _, hr, hp.fit h hg (by omega) (by omega) (by omega) (.inr ⟨hz0, hn⟩)⟩
  · rw [if_neg hg]
    exact ⟨_, _, _, _, rfl, h⟩
theorem iDrop (l0 : List (List S57)) (l1 : List Int) (a : Int) (h : FitT l0 l1) : ∃ r0 r1 r2, intern_Drop.f l0 l1 a = some (r0, r1, r2) ∧ FitT r0 r1 := by
  by_cases hh : 0 ≤ a ∧ a < l1.length ∧ rd l1 a ≠ 0
  · obtain ⟨z, rfl⟩ : ∃ z : Nat, a = (z : Int) := ⟨a.toNat, by omega⟩
    obtain ⟨r0, r1, hr, hf, _⟩ := drop_ok h hh.2.2
    exact ⟨_, _, _, hr, hf⟩
  · refine ⟨l0, l1, 1, ?_, h⟩
    unfold intern_Drop.f
    rw [if_neg hh]
theorem iGet (l0 : List (List S57)) (l1 : List Int) (a : Int) (h : FitT l0 l1) : ∃ x e, intern_Get.f l0 l1 a = some (x, e) ∧ x.length ≤ 1000 := by
  obtain ⟨_, _, hs⟩ := fit_small h
  have hl := h.len
  unfold intern_Get.f
  by_cases hh : 0 ≤ a ∧ a < l1.length ∧ rd l1 a ≠ 0
  · obtain ⟨z, rfl⟩ : ∃ z : Nat, a = (z : Int) := ⟨a.toNat, by omega⟩
    have hz := hs z
    have hcl : slices_ClonePair.f (rd_L3 l0 (z : Int)) = some (rd_L3 l0 (z : Int)) := by unfold slices_ClonePair.f; rw [if_pos (by omega)]
    rw [if_pos hh, if_pos (by omega), hcl]
    exact ⟨_, _, rfl, hz⟩
  · rw [if_neg hh]
    exact ⟨_, _, rfl, by simp⟩
theorem does_j1 (k : Nat) (hk : 4000 ≤ k) (l0 : List (List S57)) (l1 : List Int) (l : List S57) (a : Int) (hl : l.length ≤ 40) (hf : fewB l0 l1 = true) : curtilagelaw05_InternDoes.j1 k l a false l0 l1 = some true := by
  obtain ⟨k, rfl⟩ : ∃ m, k = m + 1 := ⟨k - 1, by omega⟩
  obtain ⟨f0, f1, f2⟩ := few_spec hf
  obtain ⟨b, hb, hbi⟩ := rFitT l0 l1 (by omega) (fun i => by have := f2 i; omega) k (by omega)
  rw [curtilagelaw05_InternDoes.j1, if_neg (by decide), hb, Option.bind_some]
  cases b with
  | false => rw [if_neg (by decide), awake k (by omega)]; rfl
  | true =>
    have h := hbi.1 rfl
    obtain ⟨s0, s1, s2⟩ := fit_small h
    obtain ⟨p0, p1, p2, p3, hA, fA⟩ := iAdd l0 l1 l h (by omega) k (by omega)
    obtain ⟨q0, q1, q2, hD, fD⟩ := iDrop l0 l1 a h
    obtain ⟨x, e, hG, hx⟩ := iGet l0 l1 a h
    obtain ⟨a0, a1, a2⟩ := fit_small fA
    obtain ⟨d0, d1, d2⟩ := fit_small fD
    obtain ⟨b1, hb1, hbi1⟩ := rFitT p0 p1 (by omega) a2 k (by omega)
    obtain ⟨b2, hb2, hbi2⟩ := rFitT q0 q1 (by omega) d2 k (by omega)
    rw [if_pos rfl, rAdd l0 l1 l h (by omega) s2 k (by omega), hA, Option.bind_some, Option.bind_some, rDrop l0 l1 a h k (by omega), hD, Option.bind_some, Option.bind_some, rGet l0 l1 a h s2, hG, Option.bind_some, Option.bind_some]
    rw [rFind l0 l1 l (by omega) (by omega) s2 k (by omega), show intern_Find.f l0 l1 l = some (F l0 l1 l) from rfl, Option.bind_some, Option.bind_some]
    dsimp only
    rw [rSameT p0 p1 p0 p1 a0 a1 a2 k (by omega), Option.bind_some, if_pos (by simp), if_pos rfl, if_pos rfl, rSameT q0 q1 q0 q1 d0 d1 d2 k (by omega), Option.bind_some, if_pos (by simp), if_pos rfl]
    rw [rSame x x hx k (by omega), Option.bind_some, if_pos (by simp), if_pos rfl, if_pos rfl, if_pos (by simp), Used_eq h.len, Option.bind_some, rUsed l0 l1 s1 k (by omega), Option.bind_some, if_pos rfl]
    rw [hb1, Option.bind_some, if_pos (hbi1.2 fA), hb2, Option.bind_some, if_pos (hbi2.2 fD), awake k (by omega)]
    rfl
theorem InternDoes_true (l0 : List (List S57)) (l1 : List Int) (m0 : List (List S57)) (m1 : List Int) (l : List S57) (a : Int) : ∃ k, curtilagelaw05_InternDoes.f k l0 l1 m0 m1 l a = some true := by
  refine ⟨5001, ?_⟩
  have haw : curtilagelaw05_InternDoes.j0 5001 l a true l0 l1 m0 m1 = some true := by
    rw [curtilagelaw05_InternDoes.j0, if_pos rfl, awake 5000 (by omega)]; rfl
  unfold curtilagelaw05_InternDoes.f
  rw [few_eq l0 l1 5001 (by omega), Option.bind_some]
  by_cases hf : fewB l0 l1 = true
  · rw [if_pos hf, few_eq m0 m1 5001 (by omega), Option.bind_some]
    by_cases hg : fewB m0 m1 = true
    · rw [if_pos hg]
      by_cases hl : (l.length : Int) > 40
      · rw [decide_eq_true hl, haw]
      · obtain ⟨f0, f1, f2⟩ := few_spec hf
        obtain ⟨b, hb, hbi⟩ := rFitT l0 l1 (by omega) (fun i => by have := f2 i; omega) 5000 (by omega)
        obtain ⟨c, hc, hci⟩ := iFitT l0 l1 (by omega) (fun i => by have := f2 i; omega) 5000 (by omega)
        have hbc : c = b := by
          rw [Bool.eq_iff_iff, hci, hbi]
        rw [decide_eq_false hl, curtilagelaw05_InternDoes.j0, if_neg (by decide), hc, Option.bind_some, hb, Option.bind_some, hbc, if_neg (by simp), Same_eq, Option.bind_some, rSameT l0 l1 m0 m1 (by omega) (by omega) (fun i => by have := f2 i; omega) 5000 (by omega), Option.bind_some, if_neg (by simp), Same_eq, Option.bind_some]
        rw [show (!(decide (l1 = l1) && decide (l0 = l0))) = false by simp]
        exact does_j1 5000 (by omega) l0 l1 l a (by omega) hf
    · rw [if_neg hg, haw]
  · rw [if_neg hf, haw]
end Tb
end Go.Proofs.Ytfoagjdcgipcaaa.X
