/- Plain laws for FramesEach: a machine's frames beside a table of what each of four takers holds: what taking, giving and dropping leave. -/
import Derived.Test.YtgpdiehdljecnaaIt
import Derived.Test.YtgpdiehdljecnaaXx2
namespace Go.Proofs.Ytgpdiehdljecnaa.X
open Go.RowKit Go.Proofs.YtgpdiehdljecnaaW.PrintWords
set_option linter.unusedVariables false
set_option linter.unusedSimpArgs false
theorem idxs_len (p : S45 → Bool) (l : List S45) (k : Nat) : (idxs p l k).length = l.countP p := by
  induction l generalizing k with
  | nil => rfl
  | cons x r ih =>
    simp only [idxs, List.countP_cons]
    by_cases h : p x = true
    · rw [if_pos h, if_pos h, List.length_cons, ih]
    · rw [if_neg h, if_neg h, ih, Nat.add_zero]
/-- A frame, freed where p is true of it. -/
def frd (p : S45 → Bool) (x : S45) : S45 := if p x = true then ⟨0, 0⟩ else x
theorem dropAll_at (p : S45 → Bool) (r : List S45) : ∀ a : List S45, dropAll (idxs p r a.length) (a ++ r) = a ++ r.map (frd p) := by
  induction r with
  | nil => intro a; simp [idxs, dropAll]
  | cons x r ih =>
    intro a
    simp only [idxs, List.map_cons]
    by_cases h : p x = true
    · rw [if_pos h]
      have e : dropAll ((a.length : Int) :: idxs p r (a.length + 1)) (a ++ x :: r) = dropAll (idxs p r (a.length + 1)) ((a ++ [frd p x]) ++ r) := by
        unfold dropAll
        rw [List.foldl_cons]
        congr 1
        simp [frd, h]
      have e2 : a.length + 1 = (a ++ [frd p x]).length := by simp
      rw [e, e2, ih]
      simp
    · rw [if_neg h]
      have e2 : a.length + 1 = (a ++ [x]).length := by simp
      have e3 : frd p x = x := by unfold frd; rw [if_neg h]
      rw [e2, show a ++ x :: r = (a ++ [x]) ++ r by simp, ih, e3]
      simp
theorem dropAll_eq (p : S45 → Bool) (l : List S45) : dropAll (idxs p l 0) l = l.map (frd p) := by simpa using dropAll_at p l []

/-- The frames and the table tell the same. -/
structure Inv (n : Nat) (l : List S45) (t : List Int) : Prop where
  len : l.length = n
  lat : t.length = 16
  own : ∀ (k : Nat) (h : k < l.length), l[k]'h = ⟨0, 0⟩ ∨ ∃ o p : Nat, o < 4 ∧ p < 4 ∧ l[k]'h = ⟨(o : Int) + 1, (p : Int)⟩ ∧ t[4 * o + p]? = some (k : Int)
  pos : ∀ o p : Nat, o < 4 → p < 4 → t[4 * o + p]? = some (-1) ∨ ∃ (k : Nat) (h : k < l.length), l[k]'h = ⟨(o : Int) + 1, (p : Int)⟩ ∧ t[4 * o + p]? = some (k : Int)
theorem idxs_none (q : S45 → Bool) : ∀ (l : List S45) (s : Nat), (∀ x ∈ l, q x = false) → idxs q l s = []
  | [], s, h => rfl
  | x :: l, s, h => by
    simp only [idxs]
    rw [if_neg (by rw [h x (List.mem_cons_self ..)]; decide)]
    exact idxs_none q l (s + 1) (fun y hy => h y (List.mem_cons_of_mem _ hy))
theorem idxs_at (q : S45 → Bool) (x : S45) (b : List S45) (hx : q x = true) (hb : ∀ y ∈ b, q y = false) : ∀ (a : List S45) (s : Nat), (∀ y ∈ a, q y = false) → idxs q (a ++ x :: b) s = [((s + a.length : Nat) : Int)]
  | [], s, h => by
    simp only [List.nil_append, idxs]
    rw [if_pos hx, idxs_none q b _ hb]
    rfl
  | y :: a, s, h => by
    simp only [List.cons_append, idxs]
    rw [if_neg (by rw [h y (List.mem_cons_self ..)]; decide), idxs_at q x b hx hb a (s + 1) (fun z hz => h z (List.mem_cons_of_mem _ hz)), List.length_cons]
    congr 2
    omega
theorem idxs_one (q : S45 → Bool) (l : List S45) (k : Nat) (h : k < l.length) (hk : q (l[k]'h) = true) (hu : ∀ (j : Nat) (hj : j < l.length), q (l[j]'hj) = true → j = k) : idxs q l 0 = [(k : Int)] := by
  have hs : l = l.take k ++ l[k]'h :: l.drop (k + 1) := by rw [← List.drop_eq_getElem_cons h, List.take_append_drop]
  have ha : ∀ y ∈ l.take k, q y = false := by
    intro y hy
    obtain ⟨j, hj, rfl⟩ := List.mem_iff_getElem.1 hy
    rw [List.getElem_take]
    rw [List.length_take] at hj
    cases hq : q (l[j]'(by omega)) with
    | false => rfl
    | true => have := hu j (by omega) hq; omega
  have hb : ∀ y ∈ l.drop (k + 1), q y = false := by
    intro y hy
    obtain ⟨j, hj, rfl⟩ := List.mem_iff_getElem.1 hy
    rw [List.getElem_drop]
    rw [List.length_drop] at hj
    cases hq : q (l[k + 1 + j]'(by omega)) with
    | false => rfl
    | true => have := hu (k + 1 + j) (by omega) hq; omega
  have := idxs_at q (l[k]'h) (l.drop (k + 1)) hk hb (l.take k) 0 ha
  rw [← hs, List.length_take] at this
  rw [this]
  congr 2
  omega
theorem idxs_first (q : S45 → Bool) : ∀ (l : List S45) (s : Nat), (fst (idxs q l s)).2 = true → ∃ (k : Nat) (h : k < l.length), (fst (idxs q l s)).1 = ((s + k : Nat) : Int) ∧ q (l[k]'h) = true
  | [], s, h => by simp [idxs, fst] at h
  | x :: l, s, h => by
    simp only [idxs] at h ⊢
    by_cases hx : q x = true
    · rw [if_pos hx]
      exact ⟨0, by simp, rfl, hx⟩
    · rw [if_neg hx] at h ⊢
      obtain ⟨k, hk, h1, h2⟩ := idxs_first q l (s + 1) h
      refine ⟨k + 1, by simp; omega, by rw [h1]; congr 1; omega, ?_⟩
      rw [List.getElem_cons_succ]
      exact h2
theorem idxs_never (q : S45 → Bool) : ∀ (l : List S45) (s : Nat), ¬ (fst (idxs q l s)).2 = true → idxs q l s = []
  | [], s, h => rfl
  | x :: l, s, h => by
    simp only [idxs] at h ⊢
    by_cases hx : q x = true
    · rw [if_pos hx] at h; exact absurd rfl h
    · rw [if_neg hx] at h ⊢
      exact idxs_never q l (s + 1) h
/-- What a taker's page is found at. -/
theorem Inv.find {n : Nat} {l : List S45} {t : List Int} (hI : Inv n l t) (o p : Nat) (ho : o < 4) (hp : p < 4) :
    ∃ v : Int, t[4 * o + p]? = some v ∧ ((v = -1 ∧ idxs (its2 ((o : Int) + 1) (p : Int)) l 0 = []) ∨ ∃ (k : Nat) (h : k < l.length), v = (k : Int) ∧ l[k]'h = ⟨(o : Int) + 1, (p : Int)⟩ ∧ idxs (its2 ((o : Int) + 1) (p : Int)) l 0 = [(k : Int)]) := by
  have key : ∀ (j : Nat) (hj : j < l.length), its2 ((o : Int) + 1) (p : Int) (l[j]'hj) = true → t[4 * o + p]? = some (j : Int) := by
    intro j hj hq
    unfold its2 its at hq
    simp only [Bool.and_eq_true, bne_iff_ne, beq_iff_eq] at hq
    rcases hI.own j hj with e | ⟨o', p', ho', hp', e, ht⟩
    · rw [e] at hq; simp only at hq; omega
    · rw [e] at hq
      simp only at hq
      obtain rfl : o' = o := by omega
      obtain rfl : p' = p := by omega
      exact ht
  rcases hI.pos o p ho hp with hv | ⟨k, hk, e, hv⟩
  · refine ⟨-1, hv, .inl ⟨rfl, idxs_none _ _ _ ?_⟩⟩
    intro x hx
    obtain ⟨j, hj, rfl⟩ := List.mem_iff_getElem.1 hx
    cases hq : its2 ((o : Int) + 1) (p : Int) (l[j]'hj) with
    | false => rfl
    | true =>
      have := key j hj hq
      rw [hv] at this
      have := Option.some.inj this
      omega
  · refine ⟨k, hv, .inr ⟨k, hk, rfl, e, idxs_one _ l k hk ?_ ?_⟩⟩
    · rw [e]; unfold its2 its; simp; omega
    · intro j hj hq
      have := key j hj hq
      rw [hv] at this
      have := Option.some.inj this
      omega
theorem Inv.get {n : Nat} {l : List S45} {t : List Int} (hI : Inv n l t) (o p : Nat) (ho : o < 4) (hp : p < 4) (v : Int) (hv : t[4 * o + p]? = some v) : -1 ≤ v ∧ v < n ∧ frames_Find.f l ((o : Int) + 1) (p : Int) = some (if 0 ≤ v then v else 0, decide (0 ≤ v)) := by
  have hlen := hI.len
  obtain ⟨v', hv', h⟩ := hI.find o p ho hp
  rw [hv] at hv'
  have hv' := Option.some.inj hv'
  subst hv'
  unfold frames_Find.f
  rcases h with ⟨rfl, hi⟩ | ⟨k, hk, rfl, e, hi⟩
  · refine ⟨by omega, by omega, ?_⟩
    rw [hi]
    rfl
  · refine ⟨by omega, by omega, ?_⟩
    rw [hi, if_pos (by omega), decide_eq_true (by omega)]
    rfl
/-- A page is taken. -/
theorem Inv.take {n : Nat} {l : List S45} {t : List Int} (hI : Inv n l t) (hn : n ≤ 39) (o p : Nat) (ho : o < 4) (hp : p < 4) (v : Int) (hv : t[4 * o + p]? = some v) :
    ∃ l' i e, frames_Take.f l ((o : Int) + 1) (p : Int) = some (l', i, e) ∧
      ((0 ≤ v ∧ e = 12 ∧ l' = l) ∨ (v < 0 ∧ e = 6 ∧ l' = l ∧ frames_Free.f l = some 0) ∨ (v < 0 ∧ e = 0 ∧ 0 ≤ i ∧ i < n ∧ Inv n l' (t.set (4 * o + p) i))) := by
  have hlen := hI.len
  have hlat := hI.lat
  have hpos : ¬ ((o : Int) + 1 = 0 ∨ ¬ (0 ≤ (p : Int) ∧ (p : Int) ≤ 1048576)) := by omega
  obtain ⟨v', hv', h⟩ := hI.find o p ho hp
  rw [hv] at hv'
  have hv' := Option.some.inj hv'
  subst hv'
  rcases h with ⟨rfl, hi⟩ | ⟨k, hk, rfl, e, hi⟩
  · have hf : ¬ (fst (idxs (its2 ((o : Int) + 1) (p : Int)) l 0)).2 = true := by rw [hi]; decide
    by_cases hfr : (fst (idxs (fun x => x.f0 == 0) l 0)).2 = true
    · obtain ⟨k, hk, h1, h2⟩ := idxs_first _ l 0 hfr
      rw [Nat.zero_add] at h1
      refine ⟨l.set k ⟨(o : Int) + 1, (p : Int)⟩, k, 0, ?_, .inr (.inr ⟨by omega, rfl, by omega, by omega, ?_⟩)⟩
      · unfold frames_Take.f
        rw [if_neg hpos, if_neg hf, if_pos hfr, if_pos (by omega), h1, Int.toNat_natCast]
      · simp only [beq_iff_eq] at h2
        have hz : l[k]'hk = ⟨0, 0⟩ := by
          rcases hI.own k hk with e | ⟨o', p', ho', hp', e, ht⟩
          · exact e
          · rw [e] at h2; simp only at h2; omega
        refine ⟨by rw [List.length_set]; exact hlen, by rw [List.length_set]; exact hlat, ?_, ?_⟩
        · intro j hj
          rw [List.length_set] at hj
          by_cases hjk : j = k
          · subst hjk
            refine .inr ⟨o, p, ho, hp, by rw [List.getElem_set_self], ?_⟩
            rw [List.getElem?_set_self (by omega)]
          · rw [List.getElem_set_ne (fun e => hjk e.symm)]
            rcases hI.own j hj with e | ⟨o', p', ho', hp', e, ht⟩
            · exact .inl e
            · refine .inr ⟨o', p', ho', hp', e, ?_⟩
              rw [List.getElem?_set_ne ?_]
              · exact ht
              · intro e2
                rw [← e2, hv] at ht
                have := Option.some.inj ht
                omega
        · intro o' p' ho' hp'
          by_cases hc : 4 * o + p = 4 * o' + p'
          · obtain rfl : o' = o := by omega
            obtain rfl : p' = p := by omega
            refine .inr ⟨k, by rw [List.length_set]; exact hk, by rw [List.getElem_set_self], ?_⟩
            rw [List.getElem?_set_self (by omega)]
          · rw [List.getElem?_set_ne hc]
            rcases hI.pos o' p' ho' hp' with e | ⟨j, hj, e, ht⟩
            · exact .inl e
            · refine .inr ⟨j, by rw [List.length_set]; exact hj, ?_, ht⟩
              rw [List.getElem_set_ne ?_]
              · exact e
              · intro e2
                subst e2
                rw [hz] at e
                simp only [S45.mk.injEq] at e
                omega
    · refine ⟨l, 0, 6, ?_, .inr (.inl ⟨by omega, rfl, rfl, ?_⟩)⟩
      · unfold frames_Take.f
        rw [if_neg hpos, if_neg hf, if_neg hfr]
      · unfold frames_Free.f
        rw [idxs_never _ l 0 hfr]
        rfl
  · refine ⟨l, 0, 12, ?_, .inl ⟨by omega, rfl, rfl⟩⟩
    unfold frames_Take.f
    rw [if_neg hpos, if_pos (by rw [hi]; rfl)]
theorem set_same {t : List Int} {i : Nat} {v : Int} (h : t[i]? = some v) : t.set i v = t := by
  refine List.ext_getElem? fun j => ?_
  by_cases hj : i = j
  · subst hj
    rw [List.getElem?_set_self (List.getElem?_eq_some_iff.1 h).1, h]
  · rw [List.getElem?_set_ne hj]
/-- A page is given. -/
theorem Inv.give {n : Nat} {l : List S45} {t : List Int} (hI : Inv n l t) (hn : n ≤ 39) (o p : Nat) (ho : o < 4) (hp : p < 4) (v : Int) (hv : t[4 * o + p]? = some v) :
    ∃ l' e, frames_Give.f l ((o : Int) + 1) (p : Int) = some (l', e) ∧ (e = 0 ↔ 0 ≤ v) ∧ Inv n l' (t.set (4 * o + p) (-1)) := by
  have hlen := hI.len
  have hlat := hI.lat
  obtain ⟨_, _, hf⟩ := hI.get o p ho hp v hv
  obtain ⟨v', hv', h⟩ := hI.find o p ho hp
  rw [hv] at hv'
  have hv' := Option.some.inj hv'
  subst hv'
  unfold frames_Give.f
  rw [hf, Option.bind_some]
  rcases h with ⟨rfl, hi⟩ | ⟨k, hk, rfl, e, hi⟩
  · refine ⟨l, 1, ?_, by omega, by rw [set_same hv]; exact hI⟩
    rw [if_neg (by decide)]
  · have hcl : slices_Clone.f l = some l := by unfold slices_Clone.f; rw [if_pos (by omega)]
    refine ⟨l.set k ⟨0, 0⟩, 0, ?_, by omega, ?_⟩
    · dsimp only
      rw [if_pos (by simp), hcl, Option.bind_some, if_pos (by omega), if_pos (by omega), if_pos (by omega), Int.toNat_natCast]
    · refine ⟨by rw [List.length_set]; exact hlen, by rw [List.length_set]; exact hlat, ?_, ?_⟩
      · intro j hj
        rw [List.length_set] at hj
        by_cases hjk : j = k
        · subst hjk
          exact .inl (by rw [List.getElem_set_self])
        · rw [List.getElem_set_ne (fun e => hjk e.symm)]
          rcases hI.own j hj with e1 | ⟨o', p', ho', hp', e1, ht⟩
          · exact .inl e1
          · refine .inr ⟨o', p', ho', hp', e1, ?_⟩
            rw [List.getElem?_set_ne ?_]
            · exact ht
            · intro e2
              rw [← e2, hv] at ht
              have := Option.some.inj ht
              omega
      · intro o' p' ho' hp'
        by_cases hc : 4 * o + p = 4 * o' + p'
        · refine .inl ?_
          rw [← hc, List.getElem?_set_self (by omega)]
        · rw [List.getElem?_set_ne hc]
          rcases hI.pos o' p' ho' hp' with e1 | ⟨j, hj, e1, ht⟩
          · exact .inl e1
          · refine .inr ⟨j, by rw [List.length_set]; exact hj, ?_, ht⟩
            rw [List.getElem_set_ne ?_]
            · exact e1
            · intro e2
              subst e2
              rw [e] at e1
              simp only [S45.mk.injEq] at e1
              omega
/-- The table without what a taker held. -/
def cutT (t : List Int) (o : Nat) : List Int := (((t.set (4 * o) (-1)).set (4 * o + 1) (-1)).set (4 * o + 2) (-1)).set (4 * o + 3) (-1)
theorem cutT_len (t : List Int) (o : Nat) : (cutT t o).length = t.length := by simp [cutT]
theorem cutT_in (t : List Int) (o p : Nat) (hl : t.length = 16) (ho : o < 4) (hp : p < 4) : (cutT t o)[4 * o + p]? = some (-1) := by
  unfold cutT
  have : p = 0 ∨ p = 1 ∨ p = 2 ∨ p = 3 := by omega
  rcases this with rfl | rfl | rfl | rfl <;> simp [List.getElem?_set] <;> omega
theorem cutT_out (t : List Int) (o i : Nat) (h : i < 4 * o ∨ 4 * o + 4 ≤ i) : (cutT t o)[i]? = t[i]? := by
  unfold cutT
  rw [List.getElem?_set_ne (by omega), List.getElem?_set_ne (by omega), List.getElem?_set_ne (by omega), List.getElem?_set_ne (by omega)]
/-- A taker's pages are dropped. -/
theorem Inv.drop {n : Nat} {l : List S45} {t : List Int} (hI : Inv n l t) (hn : n ≤ 39) (o : Nat) (ho : o < 4) :
    ∃ l' c, frames_Drop.f l ((o : Int) + 1) = some (l', c) ∧ Inv n l' (cutT t o) := by
  have hlen := hI.len
  have hlat := hI.lat
  refine ⟨_, _, by unfold frames_Drop.f; rw [if_pos (by omega)], ?_⟩
  rw [dropAll_eq]
  have hitso : ∀ o' p' : Nat, its ((o : Int) + 1) ⟨(o' : Int) + 1, (p' : Int)⟩ = true ↔ o' = o := by
    intro o' p'
    unfold its
    simp only [Bool.and_eq_true, bne_iff_ne, beq_iff_eq]
    omega
  have hits0 : its ((o : Int) + 1) ⟨0, 0⟩ = false := by
    unfold its
    simp; omega
  refine ⟨by rw [List.length_map]; exact hlen, by rw [cutT_len]; exact hlat, ?_, ?_⟩
  · intro j hj
    rw [List.length_map] at hj
    rw [List.getElem_map]
    unfold frd
    rcases hI.own j hj with e1 | ⟨o', p', ho', hp', e1, ht⟩
    · left; rw [e1, hits0]; rfl
    · rw [e1]
      by_cases hc : o' = o
      · rw [if_pos ((hitso o' p').2 hc)]; exact .inl rfl
      · rw [if_neg (fun e => hc ((hitso o' p').1 e))]
        exact .inr ⟨o', p', ho', hp', rfl, by rw [cutT_out t o _ (by omega)]; exact ht⟩
  · intro o' p' ho' hp'
    by_cases hc : o' = o
    · subst hc
      exact .inl (cutT_in t o' p' hlat ho' hp')
    · rw [cutT_out t o _ (by omega)]
      rcases hI.pos o' p' ho' hp' with e1 | ⟨j, hj, e1, ht⟩
      · exact .inl e1
      · refine .inr ⟨j, by rw [List.length_map]; exact hj, ?_, ht⟩
        rw [List.getElem_map, e1]
        unfold frd
        rw [if_neg (fun e => hc ((hitso o' p').1 e))]
/-- What is free and what all hold is all there is. -/
theorem held_all : ∀ (l : List S45), (∀ x ∈ l, 0 ≤ x.f0 ∧ x.f0 ≤ 4) → l.countP (its 1) + l.countP (its 2) + l.countP (its 3) + l.countP (its 4) + l.countP (fun x => x.f0 == 0) = l.length
  | [], _ => rfl
  | x :: l, h => by
    have ih := held_all l (fun y hy => h y (List.mem_cons_of_mem _ hy))
    have hx := h x (List.mem_cons_self ..)
    have e1 : its 1 x = (x.f0 == 1) := by unfold its; simp
    have e2 : its 2 x = (x.f0 == 2) := by unfold its; simp
    have e3 : its 3 x = (x.f0 == 3) := by unfold its; simp
    have e4 : its 4 x = (x.f0 == 4) := by unfold its; simp
    simp only [List.countP_cons, List.length_cons, e1, e2, e3, e4]
    have : x.f0 = 0 ∨ x.f0 = 1 ∨ x.f0 = 2 ∨ x.f0 = 3 ∨ x.f0 = 4 := by omega
    rcases this with e | e | e | e | e <;> rw [e] <;> simp <;> omega
theorem Inv.held {n : Nat} {l : List S45} {t : List Int} (hI : Inv n l t) : ∃ h1 h2 h3 h4 f : Nat, frames_Held.f l 1 = some (h1 : Int) ∧ frames_Held.f l 2 = some (h2 : Int) ∧ frames_Held.f l 3 = some (h3 : Int) ∧ frames_Held.f l 4 = some (h4 : Int) ∧ frames_Free.f l = some (f : Int) ∧ h1 + h2 + h3 + h4 + f = n := by
  refine ⟨_, _, _, _, _, rfl, rfl, rfl, rfl, rfl, ?_⟩
  rw [idxs_len, idxs_len, idxs_len, idxs_len, idxs_len, ← hI.len]
  refine held_all l fun x hx => ?_
  obtain ⟨j, hj, rfl⟩ := List.mem_iff_getElem.1 hx
  rcases hI.own j hj with e1 | ⟨o', p', ho', hp', e1, ht⟩
  · rw [e1]; decide
  · rw [e1]; simp only; omega
theorem inv_new (n : Nat) : Inv n (List.replicate n z45) (List.replicate 16 (-1)) := by
  refine ⟨by simp, by simp, ?_, ?_⟩
  · intro k h
    left
    rw [List.getElem_replicate]
    rfl
  · intro o p ho hp
    left
    rw [List.getElem?_replicate, if_pos (by omega)]
end Go.Proofs.Ytgpdiehdljecnaa.X
