/- The law FramesDrops over lists: for at most 2^47 bytes of frames and any owner the printed function answers true, given rounds enough. -/
import Derived.Test.YtgpdiehdljecnaaXx3
namespace Go.Proofs.Ytgpdiehdljecnaa.X
open Go.RowKit Go.Proofs.YtgpdiehdljecnaaW.PrintWords Go.Proofs.YtgpdiehdljecnaaW.PrintLast Go.Proofs.YtgpdiehdljecnaaW.PrintMore
set_option linter.unusedVariables false
set_option linter.unusedSimpArgs false

theorem wrap_in (n : Int) (h0 : -9223372036854775808 ≤ n) (h1 : n ≤ 9223372036854775807) : wrap64 n = n := by unfold wrap64; omega
theorem rd_nat (l : List S45) (i : Nat) : rd_T45 l (i : Int) = l.getD i z45 := by simp [rd_T45]
theorem idxs_len (p : S45 → Bool) (l : List S45) (k : Nat) : (idxs p l k).length = l.countP p := by
  induction l generalizing k with
  | nil => rfl
  | cons x r ih =>
    simp only [idxs, List.countP_cons]
    by_cases h : p x = true
    · rw [if_pos h, if_pos h, List.length_cons, ih]
    · rw [if_neg h, if_neg h, ih, Nat.add_zero]
/-- A frame, freed where p is true of it. -/
def frd (p : S45 → Bool) (x : S45) : S45 := if p x = true then ⟨0, 0⟩ else x
theorem dropAll_at (p : S45 → Bool) (r : List S45) : ∀ a : List S45, dropAll (idxs p r a.length) (a ++ r) = a ++ r.map (frd p) := by
  induction r with
  | nil => intro a; simp [idxs, dropAll]
  | cons x r ih =>
    intro a
    simp only [idxs, List.map_cons]
    by_cases h : p x = true
    · rw [if_pos h]
      have e : dropAll ((a.length : Int) :: idxs p r (a.length + 1)) (a ++ x :: r) = dropAll (idxs p r (a.length + 1)) ((a ++ [frd p x]) ++ r) := by
        unfold dropAll
        rw [List.foldl_cons]
        congr 1
        simp [frd, h]
      have e2 : a.length + 1 = (a ++ [frd p x]).length := by simp
      rw [e, e2, ih]
      simp
    · rw [if_neg h]
      have e2 : a.length + 1 = (a ++ [x]).length := by simp
      have e3 : frd p x = x := by unfold frd; rw [if_neg h]
      rw [e2, show a ++ x :: r = (a ++ [x]) ++ r by simp, ih, e3]
      simp
theorem dropAll_eq (p : S45 → Bool) (l : List S45) : dropAll (idxs p l 0) l = l.map (frd p) := by simpa using dropAll_at p l []

theorem rFind_tot (l : List S45) (a1 a2 : Int) (hl : l.length ≤ 1000) (d : Nat) : ∀ (k i : Nat), i ≤ l.length → l.length - i = d → 2 * d + 2 ≤ k → ∃ r, curtilageref11_Find.l0 k l a1 a2 (i : Int) = some r := by
  induction d with
  | zero =>
    intro k i h1 h2 hk
    obtain ⟨k, rfl⟩ : ∃ m, k = m + 1 + 1 := ⟨k - 2, by omega⟩
    refine ⟨(0, false), ?_⟩
    rw [curtilageref11_Find.l0, if_neg (by omega), curtilageref11_Find.j1, if_neg (by simp)]
  | succ d ih =>
    intro k i h1 h2 hk
    obtain ⟨k, rfl⟩ : ∃ m, k = m + 1 + 1 := ⟨k - 2, by omega⟩
    obtain ⟨r, hr⟩ := ih k (i + 1) (by omega) (by omega) (by omega)
    have hw : wrap64 ((i : Int) + 1) = ((i + 1 : Nat) : Int) := by rw [wrap_in _ (by omega) (by omega)]; rfl
    rw [curtilageref11_Find.l0, if_pos (by omega), curtilageref11_Find.j1, hw, hr, if_pos (by omega : (0 : Int) ≤ (i : Int)), if_pos (by omega : (i : Int) < (l.length : Int))]
    split
    · split
      · split
        · exact ⟨_, rfl⟩
        · exact ⟨_, rfl⟩
      · exact ⟨_, rfl⟩
    · exact ⟨_, rfl⟩
theorem rFit_tot (l : List S45) (hl : l.length ≤ 1000) (d : Nat) : ∀ (k i : Nat), i ≤ l.length → l.length - i = d → 2 * d + 2 * l.length + 5 ≤ k → ∃ r, curtilageref11_Fit.l0 k l (i : Int) = some r := by
  induction d with
  | zero =>
    intro k i h1 h2 hk
    obtain ⟨k, rfl⟩ : ∃ m, k = m + 1 := ⟨k - 1, by omega⟩
    exact ⟨true, by rw [curtilageref11_Fit.l0, if_neg (by omega)]⟩
  | succ d ih =>
    intro k i h1 h2 hk
    obtain ⟨k, rfl⟩ : ∃ m, k = m + 1 + 1 := ⟨k - 2, by omega⟩
    obtain ⟨r, hr⟩ := ih k (i + 1) (by omega) (by omega) (by omega)
    have hw : wrap64 ((i : Int) + 1) = ((i + 1 : Nat) : Int) := by rw [wrap_in _ (by omega) (by omega)]; rfl
    have hj : ∀ b x y, ∃ r, curtilageref11_Fit.j1 (k + 1) l (i : Int) b x y = some r := by
      intro b x y
      obtain ⟨q, hq⟩ := rFind_tot l x y hl l.length k 0 (by omega) (by omega) (by omega)
      have hq' : curtilageref11_Find.f k l x y = some q := hq
      rw [curtilageref11_Fit.j1, hq', hw, hr]
      split
      · exact ⟨_, rfl⟩
      · simp only [Option.bind_some]
        split
        · split
          · exact ⟨_, rfl⟩
          · exact ⟨_, rfl⟩
        · exact ⟨_, rfl⟩
    rw [curtilageref11_Fit.l0, if_pos (by omega), if_pos (by omega)]
    split
    · exact hj _ _ _
    · split
      · exact hj _ _ _
      · split
        · exact hj _ _ _
        · exact hj _ _ _

theorem awake_true : curtilagelaw11_awake.f = some true := by
  decide +kernel

theorem drops_loop (o : Int) (l : List S45) (hl : l.length ≤ 1000) (d : Nat) : ∀ (k i : Nat), i ≤ l.length → l.length - i = d → 2 * d + 1 ≤ k →
    curtilagelaw11_FramesDrops.l0 k o (l.map (frd (its o))) l (l.length : Int) (i : Int) = some true := by
  induction d with
  | zero =>
    intro k i h1 h2 hk
    obtain ⟨k, rfl⟩ : ∃ m, k = m + 1 := ⟨k - 1, by omega⟩
    rw [curtilagelaw11_FramesDrops.l0, if_neg (by omega), awake_true]
    rfl
  | succ d ih =>
    intro k i h1 h2 hk
    obtain ⟨k, rfl⟩ : ∃ m, k = m + 1 + 1 := ⟨k - 2, by omega⟩
    have hr := ih k (i + 1) (by omega) (by omega) (by omega)
    have hw : wrap64 ((i : Int) + 1) = ((i + 1 : Nat) : Int) := by rw [wrap_in _ (by omega) (by omega)]; rfl
    have hi : i < l.length := by omega
    have e1 : rd_T45 l (i : Int) = l[i] := by simp [rd_nat, List.getD_eq_getElem?_getD, hi]
    have e2 : rd_T45 (l.map (frd (its o))) (i : Int) = frd (its o) l[i] := by simp [rd_nat, List.getD_eq_getElem?_getD, hi]
    have hj : ∀ b, b = its o l[i] → curtilagelaw11_FramesDrops.j3 (k + 1) o (l.map (frd (its o))) (i : Int) l (l.length : Int) (i : Int) b l[i].f0 l[i].f1 = some true := by
      rintro b rfl
      rw [curtilagelaw11_FramesDrops.j3, e2, hw, hr]
      have c1 : ((0 : Int) ≤ (i : Int)) = True := eq_true (by omega)
      have c2 : ((i : Int) < (((l.map (frd (its o))).length : Nat) : Int)) = True := eq_true (by rw [List.length_map]; omega)
      simp only [c1, c2, if_true]
      by_cases h : its o l[i] = true
      · rw [if_pos h]
        simp [frd, h]
      · rw [if_neg h]
        simp [frd, h]
    rw [curtilagelaw11_FramesDrops.l0, e1, if_pos (by omega), if_pos (by omega), if_pos (by omega)]
    by_cases h : l[i].f0 = o
    · rw [if_pos h]
      exact hj _ (by simp [its, h])
    · rw [if_neg h]
      exact hj _ (by simp [its, h])

theorem FramesDrops_true (l : List S45) (o : Int) : ∃ k, curtilagelaw11_FramesDrops.f k l o = some true := by
  obtain ⟨k, hk⟩ : ∃ k : Nat, 998 ≤ k := ⟨998, Nat.le_refl _⟩
  refine ⟨k + 1 + 1, ?_⟩
  unfold curtilagelaw11_FramesDrops.f
  by_cases h60 : (l.length : Int) > 60
  · rw [if_pos h60, curtilagelaw11_FramesDrops.j0, if_pos rfl, awake_true]
    rfl
  · rw [if_neg h60]
    obtain ⟨b, hb⟩ := rFit_tot l (by omega) l.length (k + 1 + 1) 0 (by omega) (by omega) (by omega)
    have hb' : curtilageref11_Fit.f (k + 1 + 1) l = some b := by unfold curtilageref11_Fit.f; rw [if_neg (by omega)]; simpa using hb
    rw [hb']
    simp only [Option.bind_some]
    rw [curtilagelaw11_FramesDrops.j0]
    cases b with
    | false => rw [if_pos (show (!false) = true from rfl), awake_true]; rfl
    | true =>
      rw [if_neg (by simp)]
      have hd : frames_Drop.f l o = some (l.map (frd (its o)), ((idxs (its o) l 0).length : Int)) := by unfold frames_Drop.f; rw [if_pos (by omega), dropAll_eq]
      have hh : ∀ m : List S45, frames_Held.f m o = some ((idxs (its o) m 0).length : Int) := fun _ => rfl
      have hf : ∀ m : List S45, frames_Free.f m = some ((idxs (fun x => x.f0 == 0) m 0).length : Int) := fun _ => rfl
      rw [hd, hh, Option.bind_some, Option.bind_some]
      dsimp only
      rw [if_pos rfl, if_pos (by rw [List.length_map]), hf, hf, hh, Option.bind_some, Option.bind_some, Option.bind_some]
      have hcf : (idxs (fun x => x.f0 == 0) (l.map (frd (its o))) 0).length = (idxs (fun x => x.f0 == 0) l 0).length + (idxs (its o) l 0).length := by
        rw [idxs_len, idxs_len, idxs_len]
        clear hb hb' h60 hd hh hf
        induction l with
        | nil => rfl
        | cons x r ih =>
          simp only [List.map_cons, List.countP_cons, ih]
          by_cases h : its o x = true
          · have h2 : (x.f0 == 0) = false := by
              simp [its] at h
              simp
              omega
            simp [frd, h, h2]
            omega
          · simp [frd, h]
            omega
      have hch : o ≠ 0 → (idxs (its o) (l.map (frd (its o))) 0).length = 0 := by
        intro ho
        rw [idxs_len]
        rw [List.countP_eq_zero]
        intro y hy
        obtain ⟨x, _, rfl⟩ := List.mem_map.1 hy
        unfold frd
        split
        · simp [its]; omega
        · assumption
      have hle : (idxs (fun x => x.f0 == 0) l 0).length ≤ l.length := idxs_length _ _ _
      have hle2 : (idxs (its o) l 0).length ≤ l.length := idxs_length _ _ _
      have hj1 : curtilagelaw11_FramesDrops.j1 (k + 1) l o (l.map (frd (its o))) (((idxs (fun x => x.f0 == 0) (l.map (frd (its o))) 0).length : Int) != wrap64 (((idxs (fun x => x.f0 == 0) l 0).length : Int) + ((idxs (its o) l 0).length : Int))) = some true := by
        rw [curtilagelaw11_FramesDrops.j1, wrap_in _ (by omega) (by omega), hcf]
        rw [if_neg (by simp)]
        simpa using drops_loop o l (by omega) l.length k 0 (by omega) (by omega) (by omega)
      by_cases ho : o = 0
      · rw [if_pos ho]
        exact hj1
      · rw [if_neg ho, if_pos (by rw [hch ho]; rfl)]
        exact hj1
end Go.Proofs.Ytgpdiehdljecnaa.X
