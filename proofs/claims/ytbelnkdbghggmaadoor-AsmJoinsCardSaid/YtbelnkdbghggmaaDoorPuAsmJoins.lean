/- The plain law of AsmJoins. -/
import Derived.Test.YtbelnkdbghggmaaDoorPuD
import Derived.Test.YtbelnkdbghggmaaDoorXx3
namespace Go.Proofs.YtbelnkdbghggmaaDoor.X
open Go.RowKit Go.Proofs.YtbelnkdbghggmaaDoorW.PrintWords
set_option linter.unusedVariables false
set_option linter.unusedSimpArgs false
theorem w64 (n : Int) (h : -9223372036854775808 ≤ n ∧ n ≤ 9223372036854775807) : wrap64 n = n := by unfold wrap64; omega
theorem rd_at (xs : List S28) (i : Nat) (h : i < xs.length) : rd_T28 xs (i : Int) = xs[i] := by simp [rd_T28, List.getD_eq_getElem?_getD, h]
theorem few_l0 (l : List S28) (h : l.length ≤ 60) : ∀ (d i : Nat), i + d = l.length → ∃ k b, curtilagelaw10_few.l0 k l (l.length : Int) (i : Int) = some b
  | 0, i, e => ⟨1, true, by simp only [curtilagelaw10_few.l0]; rw [if_neg (by omega)]⟩
  | d + 1, i, e => by
    obtain ⟨k, b, hk⟩ := few_l0 l h d (i + 1) (by omega)
    by_cases hw : (wrap64 ((((rd_T28 l (i : Int)).f0).size : Int) + (((rd_T28 l (i : Int)).f2).size : Int))) > 100
    · exact ⟨1, false, by simp only [curtilagelaw10_few.l0]; rw [if_pos (by omega), if_pos (by omega), if_pos (by omega), if_pos hw]⟩
    · refine ⟨k + 1, b, ?_⟩
      simp only [curtilagelaw10_few.l0]
      rw [if_pos (by omega), if_pos (by omega), if_pos (by omega), if_neg hw, w64 _ (by omega), show (i : Int) + 1 = ((i + 1 : Nat) : Int) by omega]
      exact hk
theorem few_ex (l : List S28) : ∃ k b, curtilagelaw10_few.f k l = some b ∧ (b = true → l.length ≤ 60) := by
  by_cases h : l.length ≤ 60
  · obtain ⟨k, b, hk⟩ := few_l0 l h l.length 0 (by omega)
    refine ⟨k, b, ?_, fun _ => h⟩
    unfold curtilagelaw10_few.f
    rw [if_neg (by omega)]
    exact hk
  · refine ⟨0, false, ?_, fun e => by cases e⟩
    unfold curtilagelaw10_few.f
    rw [if_pos (by omega)]
theorem same_l0 (a : List Int) (h : a.length ≤ 200) : ∀ (d i : Nat), i + d = a.length → ∃ k, curtilagelaw10_same.l0 k a a (a.length : Int) (i : Int) = some true
  | 0, i, e => ⟨1, by simp only [curtilagelaw10_same.l0]; rw [if_neg (by omega)]⟩
  | d + 1, i, e => by
    obtain ⟨k, hk⟩ := same_l0 a h d (i + 1) (by omega)
    refine ⟨k + 1, ?_⟩
    simp only [curtilagelaw10_same.l0]
    rw [if_pos (by omega), if_pos (by omega), if_pos (by omega), if_pos (by omega), if_pos trivial, w64 _ (by omega), show (i : Int) + 1 = ((i + 1 : Nat) : Int) by omega]
    exact hk
theorem same_ex (a : List Int) (h : a.length ≤ 200) : ∃ k, curtilagelaw10_same.f k a a = some true := by
  obtain ⟨k, hk⟩ := same_l0 a h a.length 0 (by omega)
  refine ⟨k, ?_⟩
  unfold curtilagelaw10_same.f
  rw [if_pos rfl]
  exact hk
theorem asmPut_len (l : List S28) : (asmPut l).1.length ≤ l.length := by
  by_cases h : (asmPut l).2.2 = 0
  · obtain ⟨M, _, _, e⟩ := asmPut_ok l h
    rw [e]
    have := outL_length M (placedL l 0)
    rw [placedL_length] at this
    exact this
  · rw [asmPut_err l h]; exact Nat.zero_le _
theorem put_val (l : List S28) (h : wfLb l = true) : asm_Put.f l = some (asmPut l) := by unfold asm_Put.f; rw [if_pos h]
theorem list_val (a : List Int) (h : a.length ≤ 200) : asm_List.f a = some ⟨(listB a).toArray⟩ := by unfold asm_List.f; rw [if_pos (by omega)]
theorem wfLb_append (l m : List S28) (hl : wfLb l = true) (hm : wfLb m = true) (h : l.length + m.length ≤ 200) : wfLb (l ++ m) = true := by
  rw [wfLb_iff] at *
  refine ⟨fun x hx => ?_, by rw [List.length_append]; omega⟩
  rcases List.mem_append.1 hx with hx | hx
  · exact hl.1 x hx
  · exact hm.1 x hx
theorem listB_append (a b : List Int) : listB (a ++ b) = listB a ++ listB b := by simp [listB]
def disj (x y : S28) : Prop := x.f0.toList ≠ [] → x.f0.toList ≠ y.f0.toList
theorem J_tail (l m : List S28) (hl : l.length ≤ 60) (hm : m.length ≤ 60) (wl : wfLb l = true) (wm : wfLb m = true) (hd : ∀ x ∈ l, ∀ y ∈ m, disj x y) (hs : ∀ x ∈ l ++ m, x.f2.toList ≠ [] → x.f1.f0 ≠ 1) :
    ∃ k, curtilagelaw10_AsmJoins.l1 k l m l (l.length : Int) (l.length : Int) = some true := by
  have n1 := asmPut_len l
  have n2 := asmPut_len m
  obtain ⟨k, hk⟩ := same_ex ((asmPut l).1 ++ (asmPut m).1) (by rw [List.length_append]; omega)
  refine ⟨k + 1, ?_⟩
  have hp3 := put_val (l ++ m) (wfLb_append l m wl wm (by omega))
  simp only [curtilagelaw10_AsmJoins.l1]
  rw [if_neg (by omega), put_val l wl, put_val m wm]
  simp only [Option.bind_some, List.nil_append, List.length_nil, Nat.zero_add, awake_val]
  rw [if_pos (by omega), if_pos (by omega), hp3]
  simp only [Option.bind_some]
  by_cases e1 : (asmPut l).2.2 = 0
  · rw [if_pos e1]
    by_cases e2 : (asmPut m).2.2 = 0
    · rw [if_pos e2, joins l m hl hm e1 e2 hd hs]
      rw [if_pos rfl, if_pos (by omega), if_pos (by omega)]
      rw [hk]
      simp only [Option.bind_some, if_true]
      rw [list_val _ (by rw [List.length_append]; omega), list_val _ (by omega), list_val _ (by omega)]
      simp only [Option.bind_some]
      have s1 := listB_length (asmPut l).1
      have s2 := listB_length (asmPut m).1
      have z1 : (⟨(listB (asmPut l).1).toArray⟩ : ByteArray).size = (listB (asmPut l).1).length := by simp [ByteArray.size]
      have z2 : (⟨(listB (asmPut m).1).toArray⟩ : ByteArray).size = (listB (asmPut m).1).length := by simp [ByteArray.size]
      rw [if_pos (by rw [z1, z2]; omega), if_pos]
      rw [ByteArray.toList_eq, ByteArray.toList_eq, ByteArray.data_append]
      simp [listB_append]
    · rw [if_neg e2]
  · rw [if_neg e1]
mutual
theorem J_l1 (l m : List S28) (hl : l.length ≤ 60) (hm : m.length ≤ 60) (wl : wfLb l = true) (wm : wfLb m = true) (hs : ∀ x ∈ l ++ m, x.f2.toList ≠ [] → x.f1.f0 ≠ 1) (d i : Nat) (e : i + d = l.length) (hd : ∀ x ∈ l.take i, ∀ y ∈ m, disj x y) :
    ∃ k, curtilagelaw10_AsmJoins.l1 k l m l (l.length : Int) (i : Int) = some true := by
  match d with
  | 0 =>
    obtain rfl : i = l.length := by omega
    rw [List.take_length] at hd
    exact J_tail l m hl hm wl wm hd hs
  | d + 1 =>
    obtain ⟨k, hk⟩ := J_l2 l m hl hm wl wm hs d i (by omega) hd m.length 0 (by omega) (by simp)
    refine ⟨k + 1, ?_⟩
    simp only [curtilagelaw10_AsmJoins.l1]
    rw [if_pos (by omega), if_pos (by omega), if_pos (by omega)]
    exact hk
  termination_by (d, 0)
theorem J_l2 (l m : List S28) (hl : l.length ≤ 60) (hm : m.length ≤ 60) (wl : wfLb l = true) (wm : wfLb m = true) (hs : ∀ x ∈ l ++ m, x.f2.toList ≠ [] → x.f1.f0 ≠ 1) (d i : Nat) (e : i + (d + 1) = l.length) (hd : ∀ x ∈ l.take i, ∀ y ∈ m, disj x y)
    (f j : Nat) (ej : j + f = m.length) (hj : ∀ y ∈ m.take j, disj (rd_T28 l (i : Int)) y) :
    ∃ k, curtilagelaw10_AsmJoins.l2 k l m l (l.length : Int) (i : Int) m (m.length : Int) (j : Int) ((rd_T28 l (i : Int)).f0) ((rd_T28 l (i : Int)).f1.f0) ((rd_T28 l (i : Int)).f1.f1) ((rd_T28 l (i : Int)).f1.f2) ((rd_T28 l (i : Int)).f1.f3) ((rd_T28 l (i : Int)).f1.f4) ((rd_T28 l (i : Int)).f2) = some true := by
  match f with
  | 0 =>
    obtain rfl : j = m.length := by omega
    rw [List.take_length] at hj
    obtain ⟨k, hk⟩ := J_l1 l m hl hm wl wm hs d (i + 1) (by omega) (fun x hx y hy => by
      rw [List.take_succ_eq_append_getElem (by omega : i < l.length)] at hx
      rcases List.mem_append.1 hx with hx | hx
      · exact hd x hx y hy
      · rw [List.mem_singleton] at hx
        rw [hx, ← rd_at l i (by omega)]
        exact hj y hy)
    refine ⟨k + 1, ?_⟩
    simp only [curtilagelaw10_AsmJoins.l2]
    rw [if_neg (by omega), w64 _ (by omega), show (i : Int) + 1 = ((i + 1 : Nat) : Int) by omega]
    exact hk
  | f + 1 =>
    by_cases hq : disj (rd_T28 l (i : Int)) (rd_T28 m (j : Int))
    · obtain ⟨k, hk⟩ := J_l2 l m hl hm wl wm hs d i e hd f (j + 1) (by omega) (fun y hy => by
        rw [List.take_succ_eq_append_getElem (by omega : j < m.length)] at hy
        rcases List.mem_append.1 hy with hy | hy
        · exact hj y hy
        · rw [List.mem_singleton] at hy
          rw [hy, ← rd_at m j (by omega)]
          exact hq)
      refine ⟨k + 1, ?_⟩
      simp only [curtilagelaw10_AsmJoins.l2]
      rw [if_pos (by omega), if_pos (by omega), if_pos (by omega), w64 _ (by omega), show (j : Int) + 1 = ((j + 1 : Nat) : Int) by omega, hk]
      by_cases h0 : (rd_T28 l (i : Int)).f0.toList = ([] : List UInt8)
      · rw [if_pos h0]
      · rw [if_neg h0, if_neg (hq h0)]
    · refine ⟨1, ?_⟩
      simp only [curtilagelaw10_AsmJoins.l2]
      have h0 : ¬ (rd_T28 l (i : Int)).f0.toList = ([] : List UInt8) := fun h => hq fun k => absurd h k
      have h1 : (rd_T28 l (i : Int)).f0.toList = (rd_T28 m (j : Int)).f0.toList := by
        by_cases h1 : (rd_T28 l (i : Int)).f0.toList = (rd_T28 m (j : Int)).f0.toList
        · exact h1
        · exact absurd (fun _ => h1) hq
      rw [if_pos (by omega), if_pos (by omega), if_pos (by omega), if_neg h0, if_pos h1, awake_val]
      rfl
  termination_by (d, f + 1)
end
theorem J_l0 (l m : List S28) (hl : l.length ≤ 60) (hm : m.length ≤ 60) (wl : wfLb l = true) (wm : wfLb m = true) : ∀ (d i : Nat), i + d = (l ++ m).length → (∀ x ∈ (l ++ m).take i, x.f2.toList ≠ [] → x.f1.f0 ≠ 1) →
    ∃ k, curtilagelaw10_AsmJoins.l0 k l m (l ++ m) ((l ++ m).length : Int) (i : Int) = some true
  | 0, i, e, hs => by
    obtain rfl : i = (l ++ m).length := by omega
    rw [List.take_length] at hs
    obtain ⟨k, hk⟩ := J_l1 l m hl hm wl wm hs l.length 0 (by omega) (by simp)
    refine ⟨k + 1, ?_⟩
    simp only [curtilagelaw10_AsmJoins.l0]
    rw [if_neg (by omega)]
    exact hk
  | d + 1, i, e, hs => by
    have hlen : (l ++ m).length ≤ 120 := by rw [List.length_append]; omega
    generalize hy : l ++ m = y at *
    by_cases hq : (rd_T28 y (i : Int)).f2.toList ≠ [] → (rd_T28 y (i : Int)).f1.f0 ≠ 1
    · obtain ⟨k, hk⟩ := J_l0 l m hl hm wl wm d (i + 1) (by rw [hy]; omega) (fun x hx => by
        rw [hy, List.take_succ_eq_append_getElem (by omega : i < y.length)] at hx
        rcases List.mem_append.1 hx with hx | hx
        · exact hs x hx
        · rw [List.mem_singleton] at hx
          rw [hx, ← rd_at y i (by omega)]
          exact hq)
      rw [hy] at hk
      refine ⟨k + 1, ?_⟩
      simp only [curtilagelaw10_AsmJoins.l0]
      rw [if_pos (by omega), if_pos (by omega), if_pos (by omega), w64 _ (by omega), show (i : Int) + 1 = ((i + 1 : Nat) : Int) by omega, hk]
      by_cases h0 : (rd_T28 y (i : Int)).f2.toList = ([] : List UInt8)
      · rw [if_pos h0]
      · rw [if_neg h0, if_neg (hq h0)]
    · refine ⟨1, ?_⟩
      simp only [curtilagelaw10_AsmJoins.l0]
      have h0 : ¬ (rd_T28 y (i : Int)).f2.toList = ([] : List UInt8) := fun h => hq fun k => absurd h k
      have h1 : (rd_T28 y (i : Int)).f1.f0 = 1 := by
        by_cases h1 : (rd_T28 y (i : Int)).f1.f0 = 1
        · exact h1
        · exact absurd (fun _ => h1) hq
      rw [if_pos (by omega), if_pos (by omega), if_pos (by omega), if_neg h0, if_pos h1, awake_val]
      rfl
theorem wfLb_few {l : List S28} (h : ∀ x ∈ l, wfX x) (hl : l.length ≤ 60) : wfLb l = true := (wfLb_iff l).2 ⟨h, by omega⟩
theorem AsmJoins_val (l m : List S28) (wl : ∀ x ∈ l, wfX x) (wm : ∀ x ∈ m, wfX x) : ∃ k, curtilagelaw10_AsmJoins.f k l m = some true := by
  obtain ⟨k1, b1, h1, f1⟩ := few_ex l
  obtain ⟨k2, b2, h2, f2⟩ := few_ex m
  have key : ∀ b : Bool, (b = false → l.length ≤ 60 ∧ m.length ≤ 60) → ∃ k, curtilagelaw10_AsmJoins.j0 k l m b = some true := fun b hb => by
    cases b
    · obtain ⟨hl, hm⟩ := hb rfl
      obtain ⟨k, hk⟩ := J_l0 l m hl hm (wfLb_few wl hl) (wfLb_few wm hm) (l ++ m).length 0 (by omega) (by simp)
      refine ⟨k + 1, ?_⟩
      simp only [curtilagelaw10_AsmJoins.j0]
      rw [if_neg (by decide)]
      simp only [Option.bind_some, List.nil_append, List.length_nil, Nat.zero_add]
      rw [if_pos (by omega), if_pos (by omega)]
      exact hk
    · refine ⟨1, ?_⟩
      simp only [curtilagelaw10_AsmJoins.j0]
      rw [if_pos trivial, awake_val]
      rfl
  have mj : ∀ b k k', k ≤ k' → curtilagelaw10_AsmJoins.j0 k l m b = some true → curtilagelaw10_AsmJoins.j0 k' l m b = some true := fun b k k' hk h =>
    at_rounds (g := fun k => curtilagelaw10_AsmJoins.j0 k l m b) (fun k => (curtilagelaw10_AsmJoins.mono_l k).1 _ _ _) hk h
  by_cases hb1 : b1 = true
  · subst hb1
    obtain ⟨k3, h3⟩ := key (!b2) (fun e => ⟨f1 rfl, f2 (by cases b2 <;> simp_all)⟩)
    refine ⟨k1 + k2 + k3, ?_⟩
    unfold curtilagelaw10_AsmJoins.f
    rw [at_rounds (curtilagelaw10_few.mono l) (by omega : k1 ≤ k1 + k2 + k3) h1, at_rounds (curtilagelaw10_few.mono m) (by omega : k2 ≤ k1 + k2 + k3) h2]
    simp only [Option.bind_some, if_true]
    exact mj _ _ _ (by omega) h3
  · obtain ⟨k3, h3⟩ := key true (fun e => by cases e)
    refine ⟨k1 + k3, ?_⟩
    unfold curtilagelaw10_AsmJoins.f
    rw [at_rounds (curtilagelaw10_few.mono l) (by omega : k1 ≤ k1 + k3) h1]
    simp only [Option.bind_some]
    rw [if_neg hb1]
    exact mj _ _ _ (by omega) h3
end Go.Proofs.YtbelnkdbghggmaaDoor.X
