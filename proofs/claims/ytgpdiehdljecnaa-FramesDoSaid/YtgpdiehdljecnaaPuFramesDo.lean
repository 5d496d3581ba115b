/- The law FramesDo over lists: for any two rows of frames, any owner and any page the printed function answers true, given rounds enough. -/
import Derived.Test.YtgpdiehdljecnaaXx5
namespace Go.Proofs.Ytgpdiehdljecnaa.X
open Go.RowKit Go.Proofs.YtgpdiehdljecnaaW.PrintWords Go.Proofs.YtgpdiehdljecnaaW.PrintLast Go.Proofs.YtgpdiehdljecnaaW.PrintMore
set_option linter.unusedVariables false
set_option linter.unusedSimpArgs false
namespace FDo
theorem wrap_in (n : Int) (h0 : -9223372036854775808 ≤ n) (h1 : n ≤ 9223372036854775807) : wrap64 n = n := by unfold wrap64; omega
theorem wrap_succ (i : Nat) (h : i ≤ 100000) : wrap64 ((i : Int) + 1) = ((i + 1 : Nat) : Int) := by rw [wrap_in _ (by omega) (by omega)]; rfl
theorem rd_at (l : List S45) (i : Nat) (h : i < l.length) : rd_T45 l (i : Int) = l[i] := by simp [rd_T45, List.getD_eq_getElem?_getD, h]
theorem drop_at (l : List S45) (i : Nat) (h : i < l.length) : l.drop i = l[i] :: l.drop (i + 1) := List.drop_eq_getElem_cons h
theorem idxs_len (p : S45 → Bool) (l : List S45) (k : Nat) : (idxs p l k).length = l.countP p := by
  induction l generalizing k with
  | nil => rfl
  | cons x r ih =>
    simp only [idxs, List.countP_cons]
    by_cases h : p x = true
    · rw [if_pos h, if_pos h, List.length_cons, ih]
    · rw [if_neg h, if_neg h, ih, Nat.add_zero]
theorem idxs_none (p : S45 → Bool) (hp : ∀ x, p x = false) (l : List S45) (k : Nat) : idxs p l k = [] := by
  induction l generalizing k with
  | nil => rfl
  | cons x r ih => simp [idxs, hp, ih]
/-- A frame, freed where p is true of it. -/
def frd (p : S45 → Bool) (x : S45) : S45 := if p x = true then ⟨0, 0⟩ else x
theorem dropAll_at (p : S45 → Bool) (r : List S45) : ∀ a : List S45, dropAll (idxs p r a.length) (a ++ r) = a ++ r.map (frd p) := by
  induction r with
  | nil => intro a; simp [idxs, dropAll]
  | cons x r ih =>
    intro a
    simp only [idxs, List.map_cons]
    by_cases h : p x = true
    · rw [if_pos h]
      have e : dropAll ((a.length : Int) :: idxs p r (a.length + 1)) (a ++ x :: r) = dropAll (idxs p r (a.length + 1)) ((a ++ [frd p x]) ++ r) := by
        unfold dropAll
        rw [List.foldl_cons]
        congr 1
        simp [frd, h]
      have e2 : a.length + 1 = (a ++ [frd p x]).length := by simp
      rw [e, e2, ih]
      simp
    · rw [if_neg h]
      have e2 : a.length + 1 = (a ++ [x]).length := by simp
      have e3 : frd p x = x := by unfold frd; rw [if_neg h]
      rw [e2, show a ++ x :: r = (a ++ [x]) ++ r by simp, ih, e3]
      simp
theorem dropAll_eq (p : S45 → Bool) (l : List S45) : dropAll (idxs p l 0) l = l.map (frd p) := by simpa using dropAll_at p l []

theorem rFind_eq (l : List S45) (a1 a2 : Int) (hl : l.length ≤ 1000) (d : Nat) : ∀ (k i : Nat), i ≤ l.length → l.length - i = d → 2 * d + 2 ≤ k →
    curtilageref11_Find.l0 k l a1 a2 (i : Int) = some (fst (idxs (its2 a1 a2) (l.drop i) i)) := by
  induction d with
  | zero =>
    intro k i h1 h2 hk
    obtain ⟨k, rfl⟩ : ∃ m, k = m + 1 + 1 := ⟨k - 2, by omega⟩
    obtain rfl : i = l.length := by omega
    rw [curtilageref11_Find.l0, if_neg (by omega), curtilageref11_Find.j1, if_neg (by simp), List.drop_length]
    rfl
  | succ d ih =>
    intro k i h1 h2 hk
    obtain ⟨k, rfl⟩ : ∃ m, k = m + 1 + 1 := ⟨k - 2, by omega⟩
    have hr := ih k (i + 1) (by omega) (by omega) (by omega)
    have hi : i < l.length := by omega
    rw [curtilageref11_Find.l0, if_pos (by omega), curtilageref11_Find.j1, wrap_succ i (by omega), hr, if_pos (by omega : (0 : Int) ≤ (i : Int)), if_pos (by omega : (i : Int) < (l.length : Int)), rd_at l i hi, drop_at l i hi]
    generalize l[i] = x
    by_cases h0 : a1 = 0
    · subst h0
      rw [if_neg (by simp), idxs_none _ (by intro x; simp [its2, its])]
      rfl
    · rw [if_pos (by simpa using h0)]
      simp only [idxs]
      by_cases h1 : x.f0 = a1
      · by_cases h2 : x.f1 = a2
        · rw [if_pos h1, if_pos h2, if_pos (by simp [its2, its, h0, h1, h2])]
          rfl
        · rw [if_pos h1, if_neg h2, if_neg (by simp [its2, h2])]
      · rw [if_neg h1, if_neg (by simp [its2, its, h1])]
theorem rFind (l : List S45) (a1 a2 : Int) (hl : l.length ≤ 60) (k : Nat) (hk : 998 ≤ k) : curtilageref11_Find.f k l a1 a2 = some (fst (idxs (its2 a1 a2) l 0)) :=
  rFind_eq l a1 a2 (by omega) l.length k 0 (by omega) (by omega) (by omega)

/-- What of a frame alone must be. -/
def okf (x : S45) : Bool := decide (0 ≤ x.f1 ∧ x.f1 ≤ 1048576) && !(x.f0 == 0 && x.f1 != 0)
/-- Whether the frames behind a first part can be. -/
def fits : List S45 → List S45 → Bool
  | _, [] => true
  | p, x :: r => okf x && !(x.f0 != 0 && decide (x ∈ p)) && fits (p ++ [x]) r
theorem getL_put (x y : S45) (v : Bool) (m : List (S45 × Bool)) : Mp.getL y false (Mp.putL x v m) = if y = x then v else Mp.getL y false m := by
  induction m with
  | nil => simp [Mp.putL, Mp.getL]
  | cons a m ih =>
    obtain ⟨a, u⟩ := a
    simp only [Mp.putL]
    by_cases h : x = a
    · subst h
      rw [if_pos rfl]
      simp only [Mp.getL]
      split <;> rfl
    · rw [if_neg h]
      simp only [Mp.getL, ih]
      by_cases h2 : y = a
      · rw [if_pos h2, if_pos h2, if_neg (fun e => h (by rw [← e, h2]))]
      · rw [if_neg h2, if_neg h2]
theorem fitGo_eq (r : List S45) : ∀ (p : List S45) (m : List (S45 × Bool)), (∀ y, Mp.getL y false m = (y.f0 != 0 && decide (y ∈ p))) → fitGo r m = fits p r := by
  induction r with
  | nil => intros; rfl
  | cons x r ih =>
    intro p m hm
    simp only [fitGo, fits, okf, hm]
    cases decide (0 ≤ x.f1 ∧ x.f1 ≤ 1048576) with
    | false => simp
    | true =>
      cases (x.f0 == 0 && x.f1 != 0) with
      | true => simp
      | false =>
        cases hs : (x.f0 != 0 && decide (x ∈ p)) with
        | true => simp
        | false =>
          simp only [Bool.true_eq_false, if_false, Bool.false_eq_true, Bool.not_false, Bool.and_true, Bool.true_and]
          refine ih _ _ fun y => ?_
          rw [getL_put]
          by_cases h : y = x
          · subst h
            simp [bne]
          · rw [if_neg h, hm]
            simp [h]
theorem find_at (p : S45 → Bool) (l : List S45) (i : Nat) (hi : i < l.length) (hp : p l[i] = true) (hn : ∀ y ∈ l.take i, p y = false) (k : Nat) : fst (idxs p l k) = (((k + i : Nat) : Int), true) := by
  induction l generalizing i k with
  | nil => simp at hi
  | cons a l ih =>
    cases i with
    | zero => simp at hp; simp [idxs, hp, fst]
    | succ i =>
      have h1 : p a = false := hn a (by simp)
      simp only [idxs, h1]
      rw [if_neg (by simp), ih i (by simpa using hi) (by simpa using hp) (fun y hy => hn y (by simp [hy])) (k + 1)]
      congr 2
      omega
theorem find_some (p : S45 → Bool) (l : List S45) (k : Nat) (h : ∃ y ∈ l, p y = true) : ∃ j : Nat, j < l.length ∧ fst (idxs p l k) = (((k + j : Nat) : Int), true) ∧ ∀ y ∈ l.take j, p y = false := by
  induction l generalizing k with
  | nil => obtain ⟨y, hy, _⟩ := h; simp at hy
  | cons a l ih =>
    by_cases h1 : p a = true
    · exact ⟨0, by simp, by simp [idxs, h1, fst], by simp⟩
    · obtain ⟨y, hy, hp⟩ := h
      obtain ⟨j, hj, e, hn⟩ := ih (k + 1) ⟨y, by rcases List.mem_cons.1 hy with rfl | h; exact absurd hp h1; exact h, hp⟩
      refine ⟨j + 1, by simpa using hj, ?_, ?_⟩
      · simp only [idxs]
        rw [if_neg h1, e]
        congr 2
        omega
      · intro y hy
        simp at hy
        rcases hy with rfl | hy
        · simpa using h1
        · exact hn y hy
theorem its2_eq (x y : S45) : its2 x.f0 x.f1 y = (x.f0 != 0 && decide (y = x)) := by
  rw [Bool.eq_iff_iff]
  simp [its2, its, s45_ext, and_assoc]
theorem rFit_eq (l : List S45) (hl : l.length ≤ 60) (d : Nat) : ∀ (k i : Nat), i ≤ l.length → l.length - i = d → 2 * d + 998 ≤ k →
    curtilageref11_Fit.l0 k l (i : Int) = some (fits (l.take i) (l.drop i)) := by
  induction d with
  | zero =>
    intro k i h1 h2 hk
    obtain ⟨k, rfl⟩ : ∃ m, k = m + 1 := ⟨k - 1, by omega⟩
    obtain rfl : i = l.length := by omega
    rw [curtilageref11_Fit.l0, if_neg (by omega), List.drop_length]
    rfl
  | succ d ih =>
    intro k i h1 h2 hk
    obtain ⟨k, rfl⟩ : ∃ m, k = m + 1 + 1 := ⟨k - 2, by omega⟩
    have hr := ih k (i + 1) (by omega) (by omega) (by omega)
    have hi : i < l.length := by omega
    have htk : l.take (i + 1) = l.take i ++ [l[i]] := by simp [hi]
    rw [curtilageref11_Fit.l0, if_pos (by omega), if_pos (by omega), rd_at l i hi, drop_at l i hi]
    rw [htk] at hr
    simp only [fits]
    have hj : ∀ b, curtilageref11_Fit.j1 (k + 1) l (i : Int) b l[i].f0 l[i].f1 = some (!b && !(l[i].f0 != 0 && decide (l[i] ∈ l.take i)) && fits (l.take i ++ [l[i]]) (l.drop (i + 1))) := by
      intro b
      rw [curtilageref11_Fit.j1]
      cases b with
      | true => simp
      | false =>
        rw [if_neg (by simp), rFind l _ _ hl k (by omega), Option.bind_some, wrap_succ i (by omega), hr]
        by_cases h0 : l[i].f0 = 0
        · rw [idxs_none _ (by intro y; rw [its2_eq]; simp [h0]), if_neg (by simp [fst])]
          simp [h0]
        · obtain ⟨j, hj, e, hn⟩ := find_some (its2 l[i].f0 l[i].f1) l 0 ⟨l[i], by simp, by rw [its2_eq]; simp [h0]⟩
          rw [e, if_pos rfl]
          by_cases hm : l[i] ∈ l.take i
          · have hji : j < i := by
              apply Classical.byContradiction
              intro hge
              have h3 := hn l[i] (by
                obtain ⟨q, hq, e⟩ := List.getElem_of_mem hm
                rw [← e]
                rw [List.length_take] at hq
                rw [List.getElem_take, List.mem_take_iff_getElem]
                exact ⟨q, by omega, rfl⟩)
              rw [its2_eq] at h3
              simp [h0] at h3
            rw [if_neg (by dsimp only; omega)]
            simp [h0, hm]
          · have e2 := find_at (its2 l[i].f0 l[i].f1) l i hi (by rw [its2_eq]; simp [h0]) (by intro y hy; rw [its2_eq]; simp [h0]; rintro rfl; exact hm hy) 0
            rw [e] at e2
            have e3 := congrArg Prod.fst e2
            dsimp only at e3
            rw [if_pos (by dsimp only; omega)]
            simp [h0, hm]
    unfold okf
    by_cases c1 : l[i].f1 < 0
    · rw [if_pos c1, hj]
      have : decide (0 ≤ l[i].f1 ∧ l[i].f1 ≤ 1048576) = false := by simp; omega
      simp [this]
    · by_cases c2 : l[i].f1 > 1048576
      · rw [if_neg c1, if_pos c2, hj]
        have : decide (0 ≤ l[i].f1 ∧ l[i].f1 ≤ 1048576) = false := by simp; omega
        simp [this]
      · have : decide (0 ≤ l[i].f1 ∧ l[i].f1 ≤ 1048576) = true := by simp; omega
        rw [if_neg c1, if_neg c2, this]
        by_cases c3 : l[i].f0 = 0
        · rw [if_pos c3, hj]
          simp [c3]
        · rw [if_neg c3, hj]
          have c4 : (l[i].f0 == 0) = false := by simpa using c3
          simp [c4]
theorem rFit (l : List S45) (hl : l.length ≤ 60) (k : Nat) (hk : 5000 ≤ k) : curtilageref11_Fit.f k l = some (fits [] l) := by
  unfold curtilageref11_Fit.f
  rw [if_neg (by omega)]
  exact rFit_eq l hl l.length k 0 (by omega) (by omega) (by omega)
theorem gFit (l : List S45) (hl : l.length ≤ 60) : frames_Fit.f l = some (fits [] l) := by
  unfold frames_Fit.f
  rw [fitGo_eq l [] [] (by intro y; simp [Mp.getL])]
  have : decide (l.length ≤ 4096) = true := by simp; omega
  simp [this]
theorem fits_iff (r : List S45) : ∀ p, fits p r = true ↔ (∀ x ∈ r, okf x = true) ∧ (∀ x ∈ r, x ∈ p → x.f0 = 0) ∧ r.Pairwise (fun a b => a = b → a.f0 = 0) := by
  induction r with
  | nil => intro p; simp [fits]
  | cons x r ih =>
    intro p
    simp only [fits, Bool.and_eq_true, ih, List.pairwise_cons, List.forall_mem_cons]
    constructor
    · rintro ⟨⟨h1, h2⟩, h3, h4, h5⟩
      refine ⟨⟨h1, h3⟩, ⟨fun hp => ?_, fun y hy hp => h4 y hy (by simp [hp])⟩, fun y hy e => ?_, h5⟩
      · simpa [hp] using h2
      · rw [e]; exact h4 y hy (by simp [e])
    · rintro ⟨⟨h1, h3⟩, ⟨h2, h4⟩, h6, h5⟩
      refine ⟨⟨h1, ?_⟩, h3, fun y hy hp => ?_, h5⟩
      · by_cases hp : x ∈ p
        · simp [h2 hp]
        · simp [hp]
      · simp at hp
        rcases hp with hp | rfl
        · exact h4 y hy hp
        · exact h6 y hy rfl
theorem fits_iff' (l : List S45) : fits [] l = true ↔ (∀ x ∈ l, okf x = true) ∧ (∀ (i j : Nat) (hi : i < l.length) (hj : j < l.length), i < j → l[i] = l[j] → l[i].f0 = 0) := by
  rw [fits_iff, List.pairwise_iff_getElem]
  simp
theorem fits_frd (p : S45 → Bool) (l : List S45) (h : fits [] l = true) : fits [] (l.map (frd p)) = true := by
  rw [fits_iff'] at h ⊢
  obtain ⟨h1, h2⟩ := h
  refine ⟨?_, ?_⟩
  · intro y hy
    obtain ⟨x, hx, rfl⟩ := List.mem_map.1 hy
    unfold frd
    split
    · decide
    · exact h1 x hx
  · intro i j hi hj hij
    rw [List.getElem_map, List.getElem_map]
    unfold frd
    split
    · intro _; rfl
    · split
      · intro e; rw [e]
      · intro e
        exact h2 i j (by simpa using hi) (by simpa using hj) hij e
theorem fits_set (l : List S45) (n : Nat) (y : S45) (h : fits [] l = true) (hy : okf y = true) (hn : y.f0 = 0 ∨ y ∉ l) : fits [] (l.set n y) = true := by
  rw [fits_iff'] at h ⊢
  obtain ⟨h1, h2⟩ := h
  refine ⟨?_, ?_⟩
  · intro x hx
    rcases List.mem_or_eq_of_mem_set hx with h | rfl
    · exact h1 x h
    · exact hy
  · intro i j hi hj hij
    rw [List.length_set] at hi hj
    rw [List.getElem_set, List.getElem_set]
    have hz : ∀ q (hq : q < l.length), y = l[q] → y.f0 = 0 := fun q hq e => by
      rcases hn with h | h
      · exact h
      · exact absurd (by rw [e]; simp) h
    split
    · split
      · omega
      · intro e; exact hz j hj e
    · split
      · intro e; rw [e]; exact hz i hi e.symm
      · intro e; exact h2 i j hi hj hij e

theorem rCopied (l : List S45) (hl : l.length ≤ 60) : curtilageref11_copied.f l = some l := by
  unfold curtilageref11_copied.f
  rw [if_pos (by simp; omega)]
  simp
theorem rTake_eq (l : List S45) (a1 a2 : Int) (hl : l.length ≤ 60) (d : Nat) : ∀ (k i : Nat), i ≤ l.length → l.length - i = d → 2 * d + 2 ≤ k →
    curtilageref11_Take.l0 k l a1 a2 (i : Int) = (if (fst (idxs (fun x => x.f0 == 0) (l.drop i) i)).2 = true then some (l.set (fst (idxs (fun x => x.f0 == 0) (l.drop i) i)).1.toNat ⟨a1, a2⟩, (fst (idxs (fun x => x.f0 == 0) (l.drop i) i)).1, 0) else some (l, 0, 6)) := by
  induction d with
  | zero =>
    intro k i h1 h2 hk
    obtain ⟨k, rfl⟩ : ∃ m, k = m + 1 := ⟨k - 1, by omega⟩
    obtain rfl : i = l.length := by omega
    rw [curtilageref11_Take.l0, if_neg (by omega), List.drop_length]
    rfl
  | succ d ih =>
    intro k i h1 h2 hk
    obtain ⟨k, rfl⟩ : ∃ m, k = m + 1 := ⟨k - 1, by omega⟩
    have hr := ih k (i + 1) (by omega) (by omega) (by omega)
    have hi : i < l.length := by omega
    rw [curtilageref11_Take.l0, if_pos (by omega), if_pos (by omega), rd_at l i hi, drop_at l i hi, wrap_succ i (by omega), hr, rCopied l hl]
    by_cases h : l[i].f0 = 0
    · have ei : idxs (fun x => x.f0 == 0) (l[i] :: l.drop (i + 1)) i = (i : Int) :: idxs (fun x => x.f0 == 0) (l.drop (i + 1)) (i + 1) := by
        have h' : (l[i].f0 == 0) = true := by simpa using h
        simp only [idxs, h', if_true]
      rw [if_pos h, ei, Option.bind_some, if_pos (by omega)]
      rfl
    · have ei : idxs (fun x => x.f0 == 0) (l[i] :: l.drop (i + 1)) i = idxs (fun x => x.f0 == 0) (l.drop (i + 1)) (i + 1) := by
        have h' : (l[i].f0 == 0) = false := by simpa using h
        simp only [idxs, h', Bool.false_eq_true, if_false]
      rw [if_neg h, ei]
theorem rTake (l : List S45) (a1 a2 : Int) (hl : l.length ≤ 60) (k : Nat) (hk : 998 ≤ k) : curtilageref11_Take.f k l a1 a2 = frames_Take.f l a1 a2 := by
  unfold curtilageref11_Take.f frames_Take.f
  rw [rFind l a1 a2 hl k hk, Option.bind_some]
  obtain ⟨k, rfl⟩ : ∃ m, k = m + 1 := ⟨k - 1, by omega⟩
  have hj : ∀ b, curtilageref11_Take.j0 (k + 1) l a1 a2 (fst (idxs (its2 a1 a2) l 0)).2 b = if b = true then some (l, 0, 4) else if (fst (idxs (its2 a1 a2) l 0)).2 = true then some (l, 0, 12) else if (fst (idxs (fun x => x.f0 == 0) l 0)).2 = true then (if l.length < 8796093022208 then some (l.set (fst (idxs (fun x => x.f0 == 0) l 0)).1.toNat ⟨a1, a2⟩, (fst (idxs (fun x => x.f0 == 0) l 0)).1, 0) else none) else some (l, 0, 6) := by
    intro b
    rw [curtilageref11_Take.j0]
    have := rTake_eq l a1 a2 hl l.length k 0 (by omega) (by omega) (by omega)
    simp only [List.drop_zero] at this
    rw [if_pos (by omega : l.length < 8796093022208), ← this]
    rfl
  by_cases h1 : a1 = 0
  · rw [if_pos h1, if_pos (.inl h1), hj, if_pos rfl]
  · rw [if_neg h1]
    by_cases h2 : a2 < 0
    · rw [if_pos h2, if_pos (.inr (by omega)), hj, if_pos rfl]
    · rw [if_neg h2, hj]
      by_cases h3 : a2 > 1048576
      · rw [if_pos (by simpa using h3), if_pos (.inr (by omega))]
      · rw [if_neg (show ¬ (decide (a2 > 1048576) = true) by simpa using h3), if_neg (show ¬ (a1 = 0 ∨ ¬ (0 ≤ a2 ∧ a2 ≤ 1048576)) by omega)]
theorem rGive (l : List S45) (a1 a2 : Int) (hl : l.length ≤ 60) (k : Nat) (hk : 998 ≤ k) : curtilageref11_Give.f k l a1 a2 = frames_Give.f l a1 a2 := by
  unfold curtilageref11_Give.f frames_Give.f
  rw [rFind l a1 a2 hl k hk, rCopied l hl]
  unfold frames_Find.f slices_Clone.f
  rw [if_pos (by omega : l.length < 8796093022208)]
theorem rDrop_eq (l : List S45) (o : Int) (hl : l.length ≤ 60) (d : Nat) : ∀ (k i : Nat) (n : Nat), i ≤ l.length → n ≤ i → l.length - i = d → 2 * d + 2 ≤ k →
    curtilageref11_Drop.l0 k l o ((l.take i).map (frd (its o)) ++ l.drop i) (n : Int) (i : Int) = some (l.map (frd (its o)), ((n + (l.drop i).countP (its o) : Nat) : Int)) := by
  induction d with
  | zero =>
    intro k i n h1 hn h2 hk
    obtain ⟨k, rfl⟩ : ∃ m, k = m + 1 + 1 := ⟨k - 2, by omega⟩
    obtain rfl : i = l.length := by omega
    rw [curtilageref11_Drop.l0, if_neg (by omega), curtilageref11_Drop.j1, if_neg (by simp)]
    simp
  | succ d ih =>
    intro k i n h1 hn h2 hk
    obtain ⟨k, rfl⟩ : ∃ m, k = m + 1 + 1 := ⟨k - 2, by omega⟩
    have hi : i < l.length := by omega
    have htk : l.take (i + 1) = l.take i ++ [l[i]] := by simp [hi]
    have hd := drop_at l i hi
    rw [curtilageref11_Drop.l0, if_pos (by omega), curtilageref11_Drop.j1]
    by_cases h0 : o = 0
    · subst h0
      have hf : ∀ x, its 0 x = false := by intro x; simp [its]
      have e1 : frd (its 0) = id := by funext x; simp [frd, hf]
      rw [if_neg (by simp), e1, List.map_id, List.map_id, List.take_append_drop]
      have e2 : (l.drop i).countP (its 0) = 0 := by rw [List.countP_eq_zero]; intro x _; simp [hf]
      rw [e2, Nat.add_zero]
    · rw [if_pos (by simpa using h0), if_pos (by omega), if_pos (by omega), rd_at l i hi, wrap_succ i (by omega), wrap_succ n (by omega)]
      have hlen : ((l.take i).map (frd (its o))).length = i := by simp; omega
      by_cases h3 : l[i].f0 = o
      · have hi' : its o l[i] = true := by simp [its, h0, h3]
        rw [if_pos h3, if_pos (by simp; omega)]
        have e : ((l.take i).map (frd (its o)) ++ l.drop i).set ((i : Int).toNat) (⟨0, 0⟩ : S45) = (l.take (i + 1)).map (frd (its o)) ++ l.drop (i + 1) := by
          rw [Int.toNat_natCast, List.set_append_right _ _ (by omega), hlen, Nat.sub_self, hd, List.set_cons_zero, htk, List.map_append]
          simp [frd, hi']
        rw [e, ih k (i + 1) (n + 1) (by omega) (by omega) (by omega) (by omega), hd, List.countP_cons, if_pos hi']
        congr 2
        omega
      · have hi' : its o l[i] = false := by simp [its, h3]
        rw [if_neg h3]
        have e : (l.take i).map (frd (its o)) ++ l.drop i = (l.take (i + 1)).map (frd (its o)) ++ l.drop (i + 1) := by
          rw [hd, htk, List.map_append]
          simp [frd, hi']
        rw [e, ih k (i + 1) n (by omega) (by omega) (by omega) (by omega), hd, List.countP_cons, if_neg (by simp [hi'])]
        rfl
theorem rDrop (l : List S45) (o : Int) (hl : l.length ≤ 60) (k : Nat) (hk : 998 ≤ k) : curtilageref11_Drop.f k l o = some (l.map (frd (its o)), ((idxs (its o) l 0).length : Int)) := by
  unfold curtilageref11_Drop.f
  rw [rCopied l hl, Option.bind_some]
  have := rDrop_eq l o hl l.length k 0 0 (by omega) (by omega) (by omega) (by omega)
  rw [idxs_len]
  simpa using this
theorem gDrop (l : List S45) (o : Int) (hl : l.length ≤ 60) : frames_Drop.f l o = some (l.map (frd (its o)), ((idxs (its o) l 0).length : Int)) := by
  unfold frames_Drop.f
  rw [if_pos (by omega), dropAll_eq]
theorem rFree_eq (l : List S45) (hl : l.length ≤ 60) (d : Nat) : ∀ (k i n : Nat), i ≤ l.length → n ≤ i → l.length - i = d → 2 * d + 2 ≤ k →
    curtilageref11_Free.l0 k l (n : Int) (i : Int) = some ((n + (l.drop i).countP (fun x => x.f0 == 0) : Nat) : Int) := by
  induction d with
  | zero =>
    intro k i n h1 hn h2 hk
    obtain ⟨k, rfl⟩ : ∃ m, k = m + 1 := ⟨k - 1, by omega⟩
    obtain rfl : i = l.length := by omega
    rw [curtilageref11_Free.l0, if_neg (by omega)]
    simp
  | succ d ih =>
    intro k i n h1 hn h2 hk
    obtain ⟨k, rfl⟩ : ∃ m, k = m + 1 := ⟨k - 1, by omega⟩
    have hi : i < l.length := by omega
    rw [curtilageref11_Free.l0, if_pos (by omega), if_pos (by omega), rd_at l i hi, wrap_succ i (by omega), wrap_succ n (by omega), drop_at l i hi, List.countP_cons]
    by_cases h : l[i].f0 = 0
    · rw [if_pos h, ih k (i + 1) (n + 1) (by omega) (by omega) (by omega) (by omega), if_pos (by simpa using h)]
      congr 1
      omega
    · rw [if_neg h, ih k (i + 1) n (by omega) (by omega) (by omega) (by omega), if_neg (by simpa using h)]
      rfl
theorem rFree (l : List S45) (hl : l.length ≤ 60) (k : Nat) (hk : 998 ≤ k) : curtilageref11_Free.f k l = some ((idxs (fun x => x.f0 == 0) l 0).length : Int) := by
  unfold curtilageref11_Free.f
  have := rFree_eq l hl l.length k 0 0 (by omega) (by omega) (by omega) (by omega)
  rw [idxs_len]
  simpa using this
theorem rHeld (l : List S45) (o : Int) (hl : l.length ≤ 60) (k : Nat) (hk : 998 ≤ k) : curtilageref11_Held.f k l o = some ((idxs (its o) l 0).length : Int) := by
  unfold curtilageref11_Held.f
  rw [rDrop l o hl k hk]
  rfl
theorem same_both (x0 x1 : List S45) (k : Nat) : ∀ i : Int, api_Frame_33.l0 k x0 x1 (x0.length : Int) i = curtilageref11_Same.l0 k x0 x1 i := by
  induction k with
  | zero => intro i; rfl
  | succ k ih =>
    intro i
    rw [api_Frame_33.l0, curtilageref11_Same.l0]
    by_cases h : i < (x0.length : Int)
    · rw [if_pos h, if_pos h, if_pos h, ih]
    · rw [if_neg h, if_neg h]
theorem gSame (l m : List S45) (k : Nat) : frames_Same.f k l m = curtilageref11_Same.f k l m := by
  unfold frames_Same.f api_Frame_33.f curtilageref11_Same.f
  rw [same_both]
  split
  · simp
  · rfl
theorem rSame_tot (l m : List S45) (hl : l.length ≤ 4096) (e : l.length = m.length) (d : Nat) : ∀ (k i : Nat), i ≤ l.length → l.length - i = d → d + 1 ≤ k → ∃ b, curtilageref11_Same.l0 k l m (i : Int) = some b := by
  induction d with
  | zero =>
    intro k i h1 h2 hk
    obtain ⟨k, rfl⟩ : ∃ m, k = m + 1 := ⟨k - 1, by omega⟩
    exact ⟨true, by rw [curtilageref11_Same.l0, if_neg (by omega)]⟩
  | succ d ih =>
    intro k i h1 h2 hk
    obtain ⟨k, rfl⟩ : ∃ m, k = m + 1 := ⟨k - 1, by omega⟩
    rw [curtilageref11_Same.l0, if_pos (by omega), if_pos (by omega), if_pos (by omega), wrap_succ i (by omega)]
    split
    · exact ⟨_, rfl⟩
    · exact ih k (i + 1) (by omega) (by omega) (by omega)
theorem rSame_refl (l : List S45) (hl : l.length ≤ 4096) (d : Nat) : ∀ (k i : Nat), i ≤ l.length → l.length - i = d → d + 1 ≤ k → curtilageref11_Same.l0 k l l (i : Int) = some true := by
  induction d with
  | zero =>
    intro k i h1 h2 hk
    obtain ⟨k, rfl⟩ : ∃ m, k = m + 1 := ⟨k - 1, by omega⟩
    rw [curtilageref11_Same.l0, if_neg (by omega)]
  | succ d ih =>
    intro k i h1 h2 hk
    obtain ⟨k, rfl⟩ : ∃ m, k = m + 1 := ⟨k - 1, by omega⟩
    rw [curtilageref11_Same.l0, if_pos (by omega), if_pos (by omega), if_pos (by omega), wrap_succ i (by omega), if_neg (by simp)]
    exact ih k (i + 1) (by omega) (by omega) (by omega)
theorem rSame (l m : List S45) (hl : l.length ≤ 4096) (k : Nat) (hk : 5000 ≤ k) : ∃ b, curtilageref11_Same.f k l m = some b := by
  unfold curtilageref11_Same.f
  split
  · exact rSame_tot l m hl (by omega) l.length k 0 (by omega) (by omega) (by omega)
  · exact ⟨_, rfl⟩
theorem rSame' (l : List S45) (hl : l.length ≤ 4096) (k : Nat) (hk : 5000 ≤ k) : curtilageref11_Same.f k l l = some true := by
  unfold curtilageref11_Same.f
  rw [if_pos rfl]
  exact rSame_refl l hl l.length k 0 (by omega) (by omega) (by omega)
theorem gNew (n : Int) : ∃ r, frames_New.f n = some r ∧ curtilageref11_New.f n = some r ∧ r.1.length ≤ 4096 := by
  unfold frames_New.f curtilageref11_New.f
  by_cases h1 : n < 0
  · exact ⟨([], 4), by rw [if_pos h1], by rw [if_pos h1], by simp⟩
  · by_cases h2 : n > 4096
    · exact ⟨([], 4), by rw [if_neg h1, if_pos h2], by rw [if_neg h1, if_pos h2], by simp⟩
    · exact ⟨(List.replicate n.toNat z45, 0), by rw [if_neg h1, if_neg h2, if_pos (by omega), if_pos (by omega)], by rw [if_neg h1, if_neg h2, if_pos (by omega), if_pos (by omega)], by simp; omega⟩
theorem awake_true : curtilagelaw11_awake.f = some true := by
  decide +kernel
theorem fst_range (p : S45 → Bool) (l : List S45) (h : (fst (idxs p l 0)).2 = true) : ∃ j : Nat, j < l.length ∧ (fst (idxs p l 0)).1 = (j : Int) := by
  cases e : idxs p l 0 with
  | nil => rw [e] at h; simp [fst] at h
  | cons z r =>
    obtain ⟨j, hj, _, h2⟩ := idxs_range p l 0 z (by rw [e]; simp)
    exact ⟨j, by omega, hj⟩
theorem fst_none (p : S45 → Bool) (l : List S45) (h : (fst (idxs p l 0)).2 = false) : ∀ y ∈ l, p y = false := by
  intro y hy
  cases hp : p y with
  | false => rfl
  | true =>
    obtain ⟨j, _, e, _⟩ := find_some p l 0 ⟨y, hy, hp⟩
    rw [e] at h
    simp at h
theorem take_fits (l : List S45) (a1 a2 : Int) (hl : l.length ≤ 60) (hf : fits [] l = true) : ∃ r, frames_Take.f l a1 a2 = some r ∧ r.1.length = l.length ∧ fits [] r.1 = true := by
  unfold frames_Take.f
  split
  · exact ⟨_, rfl, rfl, hf⟩
  · rename_i h1
    have h1a : a1 ≠ 0 := fun e => h1 (.inl e)
    have h1b : 0 ≤ a2 ∧ a2 ≤ 1048576 := Classical.byContradiction fun e => h1 (.inr e)
    split
    · exact ⟨_, rfl, rfl, hf⟩
    · rename_i h2
      split
      · rw [if_pos (by omega)]
        refine ⟨_, rfl, by simp, ?_⟩
        refine fits_set l _ _ hf ?_ (.inr ?_)
        · simp [okf, h1a]
          omega
        · intro hm
          have h3 := fst_none _ l (by simpa using h2) _ hm
          simp [its2, its, h1a] at h3
      · exact ⟨_, rfl, rfl, hf⟩
theorem give_fits (l : List S45) (a1 a2 : Int) (hl : l.length ≤ 60) (hf : fits [] l = true) : ∃ r, frames_Give.f l a1 a2 = some r ∧ r.1.length = l.length ∧ fits [] r.1 = true := by
  unfold frames_Give.f frames_Find.f slices_Clone.f
  rw [Option.bind_some]
  split
  · rename_i h1
    obtain ⟨j, hj, e⟩ := fst_range _ l h1
    rw [if_pos (by omega), Option.bind_some, e, if_pos (by omega), if_pos (by omega)]
    exact ⟨_, rfl, by simp, fits_set l _ _ hf (by decide) (.inl rfl)⟩
  · exact ⟨_, rfl, rfl, hf⟩
end FDo
open FDo
theorem FramesDo_true (l m : List S45) (o pg : Int) : ∃ k, curtilagelaw11_FramesDo.f k l m o pg = some true := by
  obtain ⟨k, hk⟩ : ∃ k : Nat, 5000 ≤ k := ⟨5000, Nat.le_refl _⟩
  refine ⟨k + 1 + 1 + 1, ?_⟩
  unfold curtilagelaw11_FramesDo.f
  have hj0 : ∀ b, (b = false → l.length ≤ 60 ∧ m.length ≤ 60) → curtilagelaw11_FramesDo.j0 (k + 1 + 1 + 1) l m o pg b = some true := by
    intro b hb
    rw [curtilagelaw11_FramesDo.j0]
    cases b with
    | true => rw [if_pos rfl, awake_true]; rfl
    | false =>
      obtain ⟨hl, hm⟩ := hb rfl
      rw [if_neg (by simp)]
      obtain ⟨r, hr1, hr2, hr3⟩ := gNew pg
      obtain ⟨b1, hb1⟩ := rSame l m (by omega) (k + 1 + 1) (by omega)
      have hj1 : curtilagelaw11_FramesDo.j1 (k + 1 + 1) l o pg false = some true := by
        rw [curtilagelaw11_FramesDo.j1, if_neg (by simp), rFit l hl (k + 1) (by omega), Option.bind_some]
        by_cases hf : fits [] l = true
        · rw [if_pos hf]
          obtain ⟨t, ht, htl, htf⟩ := take_fits l o pg hl hf
          obtain ⟨g, hg, hgl, hgf⟩ := give_fits l o pg hl hf
          have hj2 : curtilagelaw11_FramesDo.j2 (k + 1) l o t.1 g.1 (l.map (frd (its o))) false = some true := by
            rw [curtilagelaw11_FramesDo.j2, if_neg (by simp), rFree l hl k (by omega), rHeld l o hl k (by omega), rFit t.1 (by omega) k (by omega), rFit g.1 (by omega) k (by omega), rFit (l.map (frd (its o))) (by simpa using hl) k (by omega), htf, hgf, fits_frd _ l hf, awake_true]
            unfold frames_Free.f frames_Held.f
            rw [Option.bind_some, Option.bind_some, if_pos rfl, Option.bind_some, Option.bind_some, if_pos rfl, Option.bind_some, if_pos rfl, Option.bind_some, if_pos rfl, Option.bind_some, if_pos rfl]
            rfl
          rw [rTake l o pg hl (k + 1) (by omega), rGive l o pg hl (k + 1) (by omega), rDrop l o hl (k + 1) (by omega), gDrop l o hl, ht, hg, rFind l o pg hl (k + 1) (by omega)]
          unfold frames_Find.f
          rw [Option.bind_some, Option.bind_some, Option.bind_some, Option.bind_some, Option.bind_some, Option.bind_some, Option.bind_some, Option.bind_some]
          dsimp only
          rw [rSame' t.1 (by omega) (k + 1) (by omega), rSame' g.1 (by omega) (k + 1) (by omega), rSame' (l.map (frd (its o))) (by simp; omega) (k + 1) (by omega)]
          rw [Option.bind_some, if_pos rfl, if_pos rfl, if_pos rfl, Option.bind_some, if_pos rfl, if_pos rfl, Option.bind_some, if_pos rfl, if_pos rfl, if_pos rfl]
          rw [bne_self_eq_false]
          exact hj2
        · rw [if_neg hf, awake_true]
          rfl
      rw [hr1, hr2, gFit l hl, rFit l hl (k + 1 + 1) (by omega), gSame, gSame, hb1, rSame' l (by omega) (k + 1 + 1) (by omega)]
      rw [Option.bind_some, Option.bind_some, Option.bind_some, Option.bind_some, if_neg (by simp), Option.bind_some, Option.bind_some, if_neg (by simp), Option.bind_some, if_pos rfl, rSame' r.1 hr3 (k + 1 + 1) (by omega), Option.bind_some, if_pos rfl, bne_self_eq_false]
      exact hj1
  split
  · exact hj0 true (by simp)
  · exact hj0 _ (by intro h; simp at h; omega)
end Go.Proofs.Ytgpdiehdljecnaa.X
