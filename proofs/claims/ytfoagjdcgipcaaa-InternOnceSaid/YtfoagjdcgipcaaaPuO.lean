/- The law InternOnce over lists: for any row of labels and any row of drops the printed function answers true, given rounds enough. -/
import Derived.Test.YtfoagjdcgipcaaaPuR0
import Derived.Test.YtfoagjdcgipcaaaXx6
namespace Go.Proofs.Ytfoagjdcgipcaaa.X
open Go.RowKit Go.Proofs.YtfoagjdcgipcaaaW.PrintWords Go.Proofs.YtfoagjdcgipcaaaW.PrintLast Go.Proofs.YtfoagjdcgipcaaaW.PrintMore
set_option linter.unusedVariables false
set_option linter.unusedSimpArgs false
namespace Tb
/-- How many of the first ones are at a place, and not gone. -/
def cnt (at_ : Nat → Int) (g : Nat → Bool) (z : Int) : Nat → Nat
  | 0 => 0
  | i + 1 => cnt at_ g z i + (if g i = false ∧ at_ i = z then 1 else 0)
theorem cnt_congr {a a' : Nat → Int} {g g' : Nat → Bool} (z : Int) : ∀ i, (∀ j, j < i → a j = a' j ∧ g j = g' j) → cnt a g z i = cnt a' g' z i := by
  intro i
  induction i with
  | zero => intro _; rfl
  | succ i ih =>
    intro h
    have h1 := h i (Nat.lt_succ_self i)
    simp only [cnt, ih (fun j hj => h j (by omega)), h1.1, h1.2]
theorem cnt_off (a : Nat → Int) (g g' : Nat → Bool) (z : Int) (j : Nat) (hg : ∀ x, g' x = if x = j then true else g x) : ∀ i, j < i → cnt a g' z i + (if g j = false ∧ a j = z then 1 else 0) = cnt a g z i := by
  intro i
  induction i with
  | zero => intro h; omega
  | succ i ih =>
    intro h
    simp only [cnt]
    by_cases hij : i = j
    · subst hij
      have : cnt a g' z i = cnt a g z i := cnt_congr z i (fun x hx => ⟨rfl, by rw [hg, if_neg (by omega)]⟩)
      rw [this, hg, if_pos rfl, if_neg (by simp)]
      omega
    · have := ih (by omega)
      rw [hg, if_neg hij]
      omega
theorem cnt_le (a : Nat → Int) (g : Nat → Bool) (z : Int) (i : Nat) : cnt a g z i ≤ i := by
  induction i with
  | zero => exact Nat.le_refl _
  | succ i ih => simp only [cnt]; split <;> omega
theorem cnt_pos (a : Nat → Int) (g : Nat → Bool) (z : Int) : ∀ i j, j < i → g j = false → a j = z → 1 ≤ cnt a g z i := by
  intro i
  induction i with
  | zero => intro j h; omega
  | succ i ih =>
    intro j h hg ha
    simp only [cnt]
    by_cases hij : j = i
    · subst hij; rw [if_pos ⟨hg, ha⟩]; omega
    · have := ih j (by omega) hg ha
      omega
theorem cnt_zero (a : Nat → Int) (g : Nat → Bool) (z : Int) : ∀ i, (∀ j, j < i → g j = true) → cnt a g z i = 0 := by
  intro i
  induction i with
  | zero => intro _; rfl
  | succ i ih =>
    intro h
    simp only [cnt, ih (fun j hj => h j (by omega)), h i (Nat.lt_succ_self i)]
    simp
/-- A sum. -/
def tot (f : Nat → Nat) : Nat → Nat
  | 0 => 0
  | m + 1 => tot f m + f m
theorem tot_add (f h : Nat → Nat) (m : Nat) : tot (fun z => f z + h z) m = tot f m + tot h m := by
  induction m with
  | zero => rfl
  | succ m ih => simp only [tot, ih]; omega
theorem tot_ge (f : Nat → Nat) : ∀ m, (∀ z, z < m → 1 ≤ f z) → m ≤ tot f m := by
  intro m
  induction m with
  | zero => intro _; omega
  | succ m ih => intro h; simp only [tot]; have := ih (fun z hz => h z (by omega)); have := h m (by omega); omega
theorem tot_one (p : Prop) [Decidable p] (a : Int) (m : Nat) : tot (fun z => if p ∧ a = (z : Int) then 1 else 0) m ≤ (if p ∧ 0 ≤ a ∧ a < m then 1 else 0) := by
  induction m with
  | zero => simp [tot]
  | succ m ih =>
    simp only [tot]
    by_cases hp : p
    · simp only [hp, true_and] at ih ⊢
      by_cases h1 : 0 ≤ a ∧ a < (m : Int)
      · rw [if_pos h1] at ih
        rw [if_neg (by omega), if_pos (by omega)]
        omega
      · rw [if_neg h1] at ih
        by_cases h2 : a = (m : Int)
        · rw [if_pos h2, if_pos (by omega)]; omega
        · rw [if_neg h2]; omega
    · simp only [hp, false_and, if_false] at ih ⊢
      omega
theorem tot_cnt (a : Nat → Int) (g : Nat → Bool) (m : Nat) (i : Nat) : tot (fun z => cnt a g (z : Int) i) m ≤ i := by
  induction i with
  | zero =>
    have h0 : ∀ m, tot (fun _ => 0) m = 0 := by
      intro m
      induction m with
      | zero => rfl
      | succ m ih => simp only [tot, ih]
    exact Nat.le_of_eq (h0 m)
  | succ i ih =>
    simp only [cnt]
    rw [tot_add]
    have := tot_one (g i = false) (a i) m
    split at this <;> omega
/-- What holds of the table and the places when some labels have been asked for. -/
structure Inv (ls : List (List S57)) (a : Nat → Int) (g : Nat → Bool) (i : Nat) (l0 : List (List S57)) (l1 : List Int) : Prop where
  fit : FitT l0 l1
  c : ∀ z : Nat, rd l1 (z : Int) = (cnt a g (z : Int) i : Int)
  nat : ∀ j, j < i → ∃ z : Nat, a j = (z : Int)
  L : ∀ j, j < i → g j = false → rd_L3 l0 (a j) = rd_L3 ls (j : Int)
variable {ls : List (List S57)} {a : Nat → Int} {g : Nat → Bool} {i : Nat} {l0 : List (List S57)} {l1 : List Int}
theorem Inv.at_ (h : Inv ls a g i l0 l1) (j : Nat) (hj : j < i) (hg : g j = false) : ∃ z : Nat, a j = (z : Int) ∧ rd l1 (z : Int) ≠ 0 ∧ rd_L3 l0 (z : Int) = rd_L3 ls (j : Int) := by
  obtain ⟨z, hz⟩ := h.nat j hj
  refine ⟨z, hz, ?_, by rw [← hz]; exact h.L j hj hg⟩
  have := cnt_pos a g (z : Int) i j hj hg hz
  rw [h.c]
  omega
theorem Inv.add (h : Inv ls a g i l0 l1) (hi : i < 60) (hg : goodB (rd_L3 ls (i : Int)) = true) (hgi : g i = false) :
    ∃ (z : Nat) (r0 : List (List S57)) (r1 : List Int), intern_Add.g l0 l1 (rd_L3 ls (i : Int)) = some (r0, r1, (z : Int), 0) ∧ ∀ a' : Nat → Int, (∀ j, a' j = if j = i then (z : Int) else a j) → Inv ls a' g (i + 1) r0 r1 := by
  have hle : ∀ z : Nat, rd l1 (z : Int) ≤ 60 := fun z => by rw [h.c]; have := cnt_le a g (z : Int) i; omega
  have hmain : ∃ (z : Nat) (r0 : List (List S57)) (r1 : List Int), intern_Add.g l0 l1 (rd_L3 ls (i : Int)) = some (r0, r1, (z : Int), 0) ∧ Put l0 l1 (rd_L3 ls (i : Int)) z r0 r1 ∧ FitT r0 r1 := by
    have hfl := (freeFrom_le l1 0).2
    have h64 := h.fit.le
    rcases hq : F l0 l1 (rd_L3 ls (i : Int)) with ⟨z, b⟩
    cases b with
    | true =>
      obtain ⟨y, rfl, hy, hcy, hLy⟩ := F_true h.fit.len hq
      obtain ⟨r0, r1, hr, hp⟩ := add_found h.fit hg hcy hLy (by have := hle y; omega)
      exact ⟨y, r0, r1, hr, hp, hp.fit h.fit hg (by omega) (by omega) (by have := hle y; omega) (.inl ⟨hcy, hLy⟩)⟩
    | false =>
      obtain ⟨rfl, hno⟩ := F_false h.fit.len hq
      have hfr : freeFrom l1 0 ≠ 64 := fun he => by
        have h1 := tot_ge (fun z => cnt a g (z : Int) i) 64 (fun z hz => by
          have := free_below l1 z (by omega)
          rw [h.c] at this
          omega)
        have h2 := tot_cnt a g 64 i
        omega
      obtain ⟨r0, r1, hr, hp⟩ := add_new h.fit hg hq hfr
      have hz0 := free_zero l1
      exact ⟨_, r0, r1, hr, hp, hp.fit h.fit hg (by omega) (by omega) (by omega) (.inr ⟨hz0, hno⟩)⟩
  obtain ⟨z, r0, r1, hr, hp, hf⟩ := hmain
  refine ⟨z, r0, r1, hr, fun a' ha' => ⟨hf, fun y => ?_, fun j hj => ?_, fun j hj hgj => ?_⟩⟩
  · have e : cnt a' g (y : Int) i = cnt a g (y : Int) i := cnt_congr _ i (fun j hj => ⟨by rw [ha', if_neg (by omega)], rfl⟩)
    rw [hp.c]
    simp only [cnt, e]
    rw [ha', if_pos rfl]
    by_cases hy : y = z
    · subst hy
      rw [if_pos rfl, if_pos ⟨hgi, rfl⟩, h.c]
      omega
    · rw [if_neg hy, if_neg (fun q => hy (by have := q.2; omega)), h.c]
      rfl
  · rw [ha']
    by_cases hji : j = i
    · rw [if_pos hji]; exact ⟨z, rfl⟩
    · rw [if_neg hji]; exact h.nat j (by omega)
  · rw [ha']
    by_cases hji : j = i
    · rw [if_pos hji, hp.L, if_pos rfl, hji]
    · rw [if_neg hji]
      obtain ⟨y, hy, hcy, hLy⟩ := h.at_ j (by omega) hgj
      rw [hy, hp.L]
      by_cases hyz : y = z
      · subst hyz
        rw [if_pos rfl]
        -- the place held a label already: it is the one that was asked for
        rcases hq : F l0 l1 (rd_L3 ls (i : Int)) with ⟨x, b⟩
        cases b with
        | true =>
          obtain ⟨x, rfl, hx, hcx, hLx⟩ := F_true h.fit.len hq
          obtain ⟨q0, q1, hq1, _⟩ := add_found h.fit hg hcx hLx (by have := hle x; omega)
          rw [hr] at hq1
          simp only [Option.some.injEq, Prod.mk.injEq] at hq1
          have : y = x := by omega
          subst this
          rw [← hLx, hLy]
        | false =>
          obtain ⟨rfl, hno⟩ := F_false h.fit.len hq
          exfalso
          by_cases hfr : freeFrom l1 0 = 64
          · rw [add_full h.fit hg hq hfr] at hr
            simp at hr
          · obtain ⟨q0, q1, hq1, _⟩ := add_new h.fit hg hq hfr
            rw [hr] at hq1
            simp only [Option.some.injEq, Prod.mk.injEq] at hq1
            have : y = freeFrom l1 0 := by omega
            rw [this] at hcy
            exact hcy (free_zero l1)
      · rw [if_neg hyz]; exact hLy
theorem Inv.drop (h : Inv ls a g i l0 l1) (j : Nat) (hj : j < i) (hgj : g j = false) : ∃ r0 r1, intern_Drop.f l0 l1 (a j) = some (r0, r1, 0) ∧ ∀ g' : Nat → Bool, (∀ x, g' x = if x = j then true else g x) → Inv ls a g' i r0 r1 := by
  obtain ⟨z, hz, hcz, hLz⟩ := h.at_ j hj hgj
  obtain ⟨r0, r1, hr, hf, hc, hL⟩ := drop_ok (z := z) h.fit hcz
  refine ⟨r0, r1, by rw [hz]; exact hr, fun g' hg' => ⟨hf, fun y => ?_, h.nat, fun x hx hgx => ?_⟩⟩
  · have := cnt_off a g g' (y : Int) j hg' i hj
    rw [hc, h.c, h.c]
    by_cases hy : y = z
    · subst hy
      rw [if_pos rfl]
      rw [if_pos ⟨hgj, hz⟩] at this
      omega
    · rw [if_neg hy]
      rw [if_neg (fun q => hy (by have := q.2; omega))] at this
      omega
  · rw [hg'] at hgx
    by_cases hxj : x = j
    · rw [if_pos hxj] at hgx; cases hgx
    · rw [if_neg hxj] at hgx
      obtain ⟨y, hy, hcy, hLy⟩ := h.at_ x hx hgx
      rw [hy, hL]
      rw [if_neg (fun q => ?_)]
      · exact hLy
      · have hyz := q.1
        subst hyz
        have h1 : 1 = rd l1 (y : Int) := q.2.symm
        rw [h.c] at h1
        have hoff := cnt_off a g g' (y : Int) j hg' i hj
        rw [if_pos ⟨hgj, hz⟩] at hoff
        have := cnt_pos a g' (y : Int) i x hx (by rw [hg', if_neg hxj]; exact hgx) hy
        omega
/-! ### the law -/
theorem rdb_at (l : List Bool) (z : Nat) (v : Bool) (i : Nat) (hz : z < l.length) : rdOf false (l.set z v) (i : Int) = if i = z then v else rdOf false l (i : Int) := by
  simp only [rdOf, Int.toNat_natCast, List.getD_eq_getElem?_getD, List.getElem?_set]
  by_cases h : z = i
  · subst h; simp [hz]
  · rw [if_neg h, if_neg (fun e => h e.symm)]
/-- same: the labels up to one, that were not dropped, are at their places. -/
theorem same_go (al : List Int) (gl : List Bool) (hi : i ≤ ls.length) (hal : al.length = ls.length) (hgl : gl.length = ls.length) (hm : ls.length ≤ 60) (h : Inv ls (fun j => rd al (j : Int)) (fun j => rdOf false gl (j : Int)) i l0 l1) (hgood : ∀ j, j < i → goodB (rd_L3 ls (j : Int)) = true) (d : Nat) : ∀ (k j : Nat), j ≤ i → i - j = d → d + 1010 ≤ k →
    curtilagelaw05_same.l0 k al gl ls ((i : Int) - 1) (j : Int) l0 l1 = some true := by
  induction d with
  | zero =>
    intro k j h1 h2 hk
    obtain ⟨k, rfl⟩ : ∃ m, k = m + 1 := ⟨k - 1, by omega⟩
    rw [curtilagelaw05_same.l0, if_neg (by omega)]
  | succ d ih =>
    intro k j h1 h2 hk
    obtain ⟨k, rfl⟩ : ∃ m, k = m + 1 := ⟨k - 1, by omega⟩
    have hr := ih k (j + 1) (by omega) (by omega) (by omega)
    have hj : j < i := by omega
    rw [curtilagelaw05_same.l0, if_pos (by omega), if_pos (by omega), if_pos (by omega), wrap_nat j (by omega), hr]
    cases hg : rdOf false gl (j : Int) with
    | true => rw [if_pos rfl]
    | false =>
      rw [if_neg (by decide), if_pos (by omega)]
      obtain ⟨z, hz, hcz, hLz⟩ := h.at_ j hj hg
      have hlen := goodB_len (hgood j hj)
      (try simp only at hz)
      rw [hz, get_ok h.fit hcz, Option.bind_some]
      dsimp only
      rw [if_pos (by omega), Find_eq, h.fit.F_at z hcz hLz, hLz, Option.bind_some]
      dsimp only
      rw [if_pos rfl, rSame _ _ (by omega) k (by omega), Option.bind_some, decide_eq_true rfl, if_pos rfl, if_pos rfl, if_pos rfl]
theorem half (i : Nat) (h : i ≤ 100) : wrap64 (Int.tdiv (i : Int) 2) = ((i / 2 : Nat) : Int) := by
  have e : Int.tdiv (i : Int) ((2 : Nat) : Int) = ((i / 2 : Nat) : Int) := (Int.ofNat_tdiv i 2).symm
  have h2 : i / 2 ≤ i := Nat.div_le_self i 2
  have e' : Int.tdiv (i : Int) 2 = ((i / 2 : Nat) : Int) := e
  rw [e']
  generalize i / 2 = q at h2
  exact wrap_ok _ (by omega) (by omega)
theorem once_end (al : List Int) (gl : List Bool) (n : Nat) (hn : n = ls.length) (hal : al.length = n) (hgl : gl.length = n) (hm : n ≤ 60) (d : Nat) : ∀ (k j : Nat) (l0 : List (List S57)) (l1 : List Int), j ≤ n → n - j = d → d + 1010 ≤ k →
    Inv ls (fun x => rd al (x : Int)) (fun x => rdOf false gl (x : Int) || decide (x < j)) n l0 l1 → curtilagelaw05_InternOnce.l1 k al gl (n : Int) (j : Int) l0 l1 = some true := by
  induction d with
  | zero =>
    intro k j l0 l1 h1 h2 hk h
    obtain ⟨k, rfl⟩ : ∃ m, k = m + 1 := ⟨k - 1, by omega⟩
    have hz : l1 = [] := by
      rcases Nat.eq_zero_or_pos l1.length with h0 | h0
      · exact List.eq_nil_of_length_eq_zero h0
      · obtain ⟨m, hm⟩ : ∃ m, l1.length = m + 1 := ⟨l1.length - 1, by omega⟩
        have := h.fit.last m hm
        rw [h.c, cnt_zero _ _ _ n (fun x hx => by simp; omega)] at this
        exact absurd rfl this
    have hz0 : l0 = [] := List.eq_nil_of_length_eq_zero (by rw [h.fit.len, hz]; rfl)
    rw [curtilagelaw05_InternOnce.l1, if_neg (by omega), hz, hz0, if_pos (show wrap64 (((([] : List (List S57)).length : Nat) : Int) + ((([] : List Int).length : Nat) : Int)) = 0 from wrap_ok 0 (by omega) (by omega)), awake k (by omega)]
    rfl
  | succ d ih =>
    intro k j l0 l1 h1 h2 hk h
    obtain ⟨k, rfl⟩ : ∃ m, k = m + 1 := ⟨k - 1, by omega⟩
    have hj : j < n := by omega
    rw [curtilagelaw05_InternOnce.l1, if_pos (by omega), if_pos (by omega), if_pos (by omega), wrap_nat j (by omega)]
    cases hg : rdOf false gl (j : Int) with
    | true =>
      rw [if_pos rfl]
      refine ih k (j + 1) l0 l1 (by omega) (by omega) (by omega) ?_
      have e : (fun x : Nat => rdOf false gl (x : Int) || decide (x < j + 1)) = fun x : Nat => rdOf false gl (x : Int) || decide (x < j) := by
        funext x
        by_cases hx : x = j
        · subst hx; simp [hg]
        · have : (x < j + 1) ↔ (x < j) := by omega
          simp only [this]
      rw [e]
      exact h
    | false =>
      rw [if_neg (by decide), if_pos (by omega)]
      obtain ⟨r0, r1, hr, hinv⟩ := h.drop j hj (by simp [hg])
      (try simp only at hr)
      rw [hr, Option.bind_some]
      dsimp only
      rw [if_pos rfl]
      refine ih k (j + 1) r0 r1 (by omega) (by omega) (by omega) (hinv _ fun x => ?_)
      by_cases hx : x = j
      · rw [if_pos hx, hx]; simp
      · rw [if_neg hx]
        have : (x < j + 1) ↔ (x < j) := by omega
        simp only [this]
theorem once_go (dr : List Bool) (n : Nat) (hn : n = ls.length) (hm : n ≤ 60) (M : Nat) (hM : ∀ j : Nat, (rd_L3 ls (j : Int)).length ≤ M) (hM2 : M ≤ 9223372036854775807) (d : Nat) : ∀ (k i : Nat) (al : List Int) (gl : List Bool) (l0 : List (List S57)) (l1 : List Int), i ≤ n → n - i = d → 3 * d + 2000 + M ≤ k → al.length = n → gl.length = n →
    (∀ j : Nat, i ≤ j → rdOf false gl (j : Int) = false) → (∀ j, j < i → goodB (rd_L3 ls (j : Int)) = true) → Inv ls (fun x => rd al (x : Int)) (fun x => rdOf false gl (x : Int)) i l0 l1 → curtilagelaw05_InternOnce.l0 k ls dr al gl ls (n : Int) (i : Int) l0 l1 = some true := by
  induction d with
  | zero =>
    intro k i al gl l0 l1 h1 h2 hk hal hgl hng hgood h
    obtain ⟨k, rfl⟩ : ∃ m, k = m + 1 := ⟨k - 1, by omega⟩
    have hin : i = n := by omega
    have e : (fun x : Nat => rdOf false gl (x : Int) || decide (x < 0)) = fun x : Nat => rdOf false gl (x : Int) := by
      funext x; simp
    have hfin := once_end (ls := ls) al gl n hn hal hgl hm n k 0 l0 l1 (Nat.zero_le _) (Nat.sub_zero _) (by omega) (by rw [e, ← hin]; exact h)
    rw [show ((0 : Nat) : Int) = (0 : Int) from rfl] at hfin
    rw [curtilagelaw05_InternOnce.l0, if_neg (by omega), ← hn]
    exact hfin
  | succ d ih =>
    intro k i al gl l0 l1 h1 h2 hk hal hgl hng hgood h
    obtain ⟨k, rfl⟩ : ∃ m, k = m + 1 + 1 + 1 := ⟨k - 3, by omega⟩
    have hi : i < n := by omega
    have hMi := hM i
    have h100 : i ≤ 100 := by omega
    have HW : Aside0 (wrap64 ((i : Int) + 1) = ((i + 1 : Nat) : Int)) := Aside0.mk (wrap_nat i (by omega))
    obtain ⟨q, hdl, HDV⟩ : ∃ q, q ≤ i ∧ Aside0 (wrap64 (Int.tdiv (i : Int) 2) = (q : Int)) := ⟨i / 2, Nat.div_le_self i 2, Aside0.mk (half i h100)⟩
    rw [curtilagelaw05_InternOnce.l0, if_pos (by omega), if_pos (by omega), if_pos (by omega), rFit' (rd_L3 ls (i : Int)) (by omega) _ (by omega)]
    have haw : curtilagelaw05_InternOnce.j1 (k + 1 + 1) ls dr al gl (i : Int) (rd_L3 ls (i : Int)) ls (n : Int) (i : Int) true l0 l1 = some true := by
      rw [curtilagelaw05_InternOnce.j1, if_pos rfl, awake _ (by omega)]
      rfl
    cases hfb : fitB (rd_L3 ls (i : Int)) with
    | false => rw [Option.bind_some, if_neg (by decide)]; exact haw
    | true =>
      rw [Option.bind_some, if_pos rfl]
      by_cases h16 : ((rd_L3 ls (i : Int)).length : Int) > 16
      · rw [decide_eq_true h16]; exact haw
      · rw [decide_eq_false h16]
        clear haw
        have hg : goodB (rd_L3 ls (i : Int)) = true := by unfold goodB; rw [hfb, decide_eq_true (by omega)]; rfl
        obtain ⟨z, r0, r1, hr, hinv⟩ := h.add (by omega) hg (hng i (Nat.le_refl _))
        have hI := hinv (fun x => rd (al.set i (z : Int)) (x : Int)) (fun x => rd_set al i (z : Int) x (by omega))
        have hgood' : ∀ j, j < i + 1 → goodB (rd_L3 ls (j : Int)) = true := fun j hj => by
          rcases Nat.lt_or_ge j i with h3 | h3
          · exact hgood j h3
          · rw [show j = i by omega]; exact hg
        have hng' : ∀ j : Nat, i + 1 ≤ j → rdOf false gl (j : Int) = false := fun j hj => hng j (by omega)
        have hal' : (al.set i (z : Int)).length = n := by rw [List.length_set]; exact hal
        have hnext := fun q0 q1 hq_ => ih k (i + 1) (al.set i (z : Int)) gl q0 q1 (by omega) (by omega) (by omega) hal' hgl hng' hgood' hq_
        have hplain : curtilagelaw05_InternOnce.j2 (k + 1) ls dr (al.set i (z : Int)) gl (i : Int) ls (n : Int) (i : Int) false r0 r1 = some true := by
          rw [curtilagelaw05_InternOnce.j2, if_neg (by decide)]
          have hs := same_go (al.set i (z : Int)) gl (i := i + 1) (by omega) (by omega) (by omega) (by omega) hI hgood' (i + 1) k 0 (by omega) (by omega) (by omega)
          have hs' : curtilagelaw05_same.f k r0 r1 (al.set i (z : Int)) gl ls (i : Int) = some true := by
            unfold curtilagelaw05_same.f
            rw [show (i : Int) = ((i + 1 : Nat) : Int) - 1 by omega]
            exact hs
          rw [hs', Option.bind_some, if_pos rfl, HW.out]
          exact hnext r0 r1 hI
        rw [curtilagelaw05_InternOnce.j1, if_neg (by decide), Add_eq hg _ (by omega), hr, Option.bind_some]
        dsimp only
        rw [if_pos rfl, if_pos (by omega), if_pos (by omega), Option.bind_some, Int.toNat_natCast, HDV.out]
        by_cases hd1 : (i : Int) < (dr.length : Int)
        · rw [if_pos hd1]
          by_cases hd2 : rdOf false dr (i : Int) = true
          · rw [if_pos hd2, if_pos (by omega), if_pos (by omega)]
            cases hgi : rdOf false gl (q : Int) with
            | true => rw [Bool.not_true]; exact hplain
            | false =>
              rw [Bool.not_false, curtilagelaw05_InternOnce.j2, if_pos rfl, HDV.out, if_pos (by omega), if_pos (by omega)]
              obtain ⟨q0, q1, hq, hqi⟩ := hI.drop q (by omega) hgi
              (try simp only at hq)
              rw [hq, Option.bind_some]
              dsimp only
              rw [if_pos (by omega), Option.bind_some, Int.toNat_natCast, if_pos rfl]
              have hJ := hqi (fun x => rdOf false (gl.set q true) (x : Int)) (fun x => rdb_at gl q true x (by omega))
              have hgl' : (gl.set q true).length = n := by rw [List.length_set]; exact hgl
              have hs := same_go (al.set i (z : Int)) (gl.set q true) (i := i + 1) (by omega) (by omega) (by omega) (by omega) hJ hgood' (i + 1) k 0 (by omega) (by omega) (by omega)
              have hs' : curtilagelaw05_same.f k q0 q1 (al.set i (z : Int)) (gl.set q true) ls (i : Int) = some true := by
                unfold curtilagelaw05_same.f
                rw [show (i : Int) = ((i + 1 : Nat) : Int) - 1 by omega]
                exact hs
              rw [hs', Option.bind_some, if_pos rfl, HW.out]
              exact ih k (i + 1) (al.set i (z : Int)) (gl.set q true) q0 q1 (by omega) (by omega) (by omega) hal' hgl' (fun j hj => by rw [rdb_at gl q true j (by omega), if_neg (by omega)]; exact hng j (by omega)) hgood' hJ
          · rw [if_neg hd2]; exact hplain
        · rw [if_neg hd1]; exact hplain
theorem labs_len {w : World} {A : Option Addr} {l0 : List (List S57)} (h : Kd.C (Kd.slice 57 k57) w A l0.length l0) (j : Nat) : (rd_L3 l0 (j : Int)).length ≤ 9223372036854775807 := by
  rcases Nat.lt_or_ge j l0.length with hj | hj
  · obtain ⟨_, _, _, _, _, _, hr⟩ := at_L3 h (j : Int) (by omega) (by omega)
    exact hr.2.1
  · rw [rdL_out l0 j hj]; simp
theorem InternOnce_true (ls : List (List S57)) (dr : List Bool) (hl : ∀ j : Nat, (rd_L3 ls (j : Int)).length ≤ 9223372036854775807) : ∃ k, curtilagelaw05_InternOnce.f k ls dr = some true := by
  by_cases hn : (ls.length : Int) > 60
  · refine ⟨1001, ?_⟩
    unfold curtilagelaw05_InternOnce.f
    rw [if_pos hn, awake _ (by omega)]
    rfl
  · obtain ⟨K, hK⟩ : ∃ K, 3 * ls.length + 2000 + 9223372036854775807 ≤ K := ⟨_, Nat.le_refl _⟩
    refine ⟨K, ?_⟩
    unfold curtilagelaw05_InternOnce.f
    rw [if_neg hn, if_pos (by omega), if_pos (by omega), if_pos (by omega)]
    simp only [Int.toNat_natCast]
    refine once_go dr ls.length rfl (by omega) 9223372036854775807 hl (by omega) ls.length _ 0 _ _ _ _ (by omega) (by omega) (by omega) (by simp) (by simp) (fun j _ => ?_) (fun j hj => by omega) ⟨FitT.nil, fun z => by simp [rd, cnt], fun j hj => by omega, fun j hj => by omega⟩
    simp only [rdOf, Int.toNat_natCast, List.getD_eq_getElem?_getD, List.getElem?_replicate]
    split <;> rfl
end Tb
end Go.Proofs.Ytfoagjdcgipcaaa.X
