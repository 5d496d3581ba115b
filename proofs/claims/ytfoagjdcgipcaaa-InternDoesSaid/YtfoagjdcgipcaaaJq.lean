/- What lies in memory while intern.Add adds a place at the end. -/
import Derived.Test.YtfoagjdcgipcaaaJw
namespace Go.Proofs.Ytfoagjdcgipcaaa.X
open Go.RowKit Go.Shelf Go.Proofs.YtfoagjdcgipcaaaW.PrintWords Go.Proofs.YtfoagjdcgipcaaaW.PrintLast
set_option linter.unusedVariables false
set_option linter.unusedSimpArgs false
/-- What lies in memory while a place is added: the labels' row, the counts' row, the keeper's block and the result's block. -/
def Ends (P : Nat → Prop) (w : World) (base k1 gk : Nat) (v0 v1 t0 t1 : Value) (l0 : List (List S57)) (l1 : List Int) (W : World) : Prop :=
  Kd.N (Kd.slice 57 k57) 29 W base (fun k => (P k ∨ base ≤ k) ∧ some k ≠ v1.ownBlock) v0 l0 ∧ Kd.R (Kd.int .i64) 3 W base (fun _ => True) v1 l1 ∧
  W.heap[gk]? = some (.cells #[t0, t1] 60 (0, 0)) ∧ W.heap[k1]? = some (.cells #[.slice none 0 0, .slice none 0 0] 27 (0, 0)) ∧ Below w.heap.size w W ∧ base ≤ W.heap.size ∧ (∀ k, P k → k < w.heap.size) ∧ gk < base ∧ k1 < base ∧ w.heap.size ≤ gk ∧ w.heap.size ≤ k1 ∧ k1 ≠ gk
theorem one_nil {W : World} {b : Nat} (h : W.cell? ⟨b, 0, none⟩ = some (.slice none 0 0)) : Kd.C (Kd.slice 57 k57) W (some ⟨b, 0, none⟩) 1 [[]] :=
  ⟨rfl, by decide, fun _ => ⟨_, rfl, fun j p hj => by
    rcases j with _ | j
    · simp only [List.getElem?_cons_zero, Option.some.injEq] at hj
      subst hj
      refine ⟨[.slice none 0 0], rfl, ⟨none, 0, rfl, Nat.le_refl _, Kd.C_nil k57 W⟩, fun i u hu => ?_⟩
      rcases i with _ | i
      · simp only [List.getElem?_cons_zero, Option.some.injEq] at hu
        subst hu
        exact h
      · simp at hu
    · simp at hj⟩⟩
theorem one_zero {W : World} {b : Nat} (h : W.cell? ⟨b, 0, none⟩ = some (.int .i64 0)) : Kd.C (Kd.int .i64) W (some ⟨b, 0, none⟩) 1 [0] :=
  ⟨rfl, by decide, fun _ => ⟨_, rfl, fun j p hj => by
    rcases j with _ | j
    · simp only [List.getElem?_cons_zero, Option.some.injEq] at hj
      subst hj
      refine ⟨[.int .i64 0], rfl, rfl, fun i u hu => ?_⟩
      rcases i with _ | i
      · simp only [List.getElem?_cons_zero, Option.some.injEq] at hu
        subst hu
        exact h
      · simp at hu
    · simp at hj⟩⟩
section
variable {P : Nat → Prop} {w W : World} {base k1 gk : Nat} {v0 v1 t0 t1 : Value} {l0 : List (List S57)} {l1 : List Int}
theorem Ends.drew (h : Ends P w base k1 gk v0 v1 t0 t1 l0 l1 W) : Ends P w base k1 gk v0 v1 t0 t1 l0 l1 W.drew :=
  ⟨Kd.N_drew h.1, Kd.R_drew h.2.1, Qb h.2.2.1, Qb h.2.2.2.1, Q9 h.2.2.2.2.1, h.2.2.2.2.2⟩
theorem Ends.alloc (h : Ends P w base k1 gk v0 v1 t0 t1 l0 l1 W) (o : Obj) : Ends P w base k1 gk v0 v1 t0 t1 l0 l1 (W.alloc o) :=
  ⟨Kd.N_alloc h.1 o, Kd.R_alloc h.2.1 o, Q7 h.2.2.1 o, Q7 h.2.2.2.1 o, Q8 h.2.2.2.2.1 o, by rw [World.size_alloc]; exact Nat.le_succ_of_le h.2.2.2.2.2.1, h.2.2.2.2.2.2⟩
theorem Ends.put (h : Ends P w base k1 gk v0 v1 t0 t1 l0 l1 W) : Ends P w base k1 gk v0 v1 v0 v1 l0 l1 ((W.setCell ⟨gk, 0, none⟩ v0).setCell ⟨gk, 1, none⟩ v1) := by
  obtain ⟨hN, hR, hG, hK, hB, hs, hP, hg, hk, hwg, hwk, hne⟩ := h
  have b1 := blk_put hG 0 v0 rfl
  have b2 := blk_put b1 1 v1 rfl
  have hx : ∀ k, ((P k ∨ base ≤ k) ∧ some k ≠ v1.ownBlock) → k ≠ gk := fun k hk => by
    rcases hk.1 with hq | hq
    · have := hP k hq; omega
    · omega
  refine ⟨Kd.N_far (p := ⟨gk, 1, none⟩) (Kd.N_far (p := ⟨gk, 0, none⟩) hN hx v0) hx v1, Kd.R_set (Kd.R_set hR hG (by decide) 0 v0) b1 (by decide) 1 v1, b2, ?_, (hB.setCell (p := ⟨gk, 0, none⟩) hwg v0).setCell (p := ⟨gk, 1, none⟩) hwg v1, by simpa using hs, hP, hg, hk, hwg, hwk, hne⟩
  exact blk_far (p := ⟨gk, 1, none⟩) (blk_far (p := ⟨gk, 0, none⟩) hK hne v0) hne v1
variable {ops : Array Oper} {o : Oper} {a : Act} {Q : Exit → Act → World → Prop} {Kc : Act → World → Prop}
theorem blk_new1 (w : World) (o : Obj) (n : Nat) (hn : n = w.heap.size) : (w.alloc o).heap[n]? = some o := hn ▸ blk_new w o
/-- append(labels, nil) in a region. -/
theorem Ends.labels (h : Ends P w base k1 gk v0 v1 t0 t1 l0 l1 W) (hw : Region.wanted o (yielded ops a.tmps) = true) (s x : Operand) (ho : o.op = .call { callee := .builtin .append, args := #[s, x], argTypes := #[22, 22] }) (hs : a.eval s = v0)
    (b : Nat) (hx : a.eval x = .slice (some ⟨b, 0, none⟩) 1 1) (hb : W.heap[b]? = some (.cells #[.slice none 0 0] 29 (0, 0))) (hlb : base ≤ b) (hv0 : ∀ k, v0.ownBlock = some k → k < b) (hl : l0.length < 5864062014805)
    (hK : ∀ gn cap w1, Ends P w base k1 gk (.slice (some ⟨gn, 0, none⟩) (l0.length + 1) cap) v1 t0 t1 (l0 ++ [[]]) l1 w1 → W.heap.size ≤ w1.heap.size → (∀ (B : Nat) (cs : Array Value), W.heap[B]? = some (Obj.cells cs 3 (0, 0)) → w1.heap[B]? = some (Obj.cells cs 3 (0, 0))) → Kc (a.put o.dst (.slice (some ⟨gn, 0, none⟩) (l0.length + 1) cap)) w1) :
    if Region.wanted o (yielded ops a.tmps) = true then Oper.wp Try.prog o a W Kc Q else Kc (a.put o.dst undef) W := by
  obtain ⟨hN, hR, hG, hKb, hB, hsz, hP, hg, hk, hwg, hwk, hne⟩ := h
  have hbW := blk_lt hb
  have hNlt := Kd.N_lt hN
  have hNb := Kd.N_base hN
  have hob : ∀ k, some k = v0.ownBlock → ∃ cells, W.heap[k]? = some (.cells cells 29 (0, 0)) := fun k hk => by
    obtain ⟨_, rows, hl', hR', _⟩ := hN
    obtain ⟨inner, ho'⟩ := Kd.R_own hR'
    exact own_typed ho' k hk.symm
  have hi1 : ∀ k, some k = v1.ownBlock → ∃ cells, W.heap[k]? = some (.cells cells 3 (0, 0)) := fun k hk => by
    obtain ⟨inner, ho'⟩ := Kd.R_own hR
    exact own_typed ho' k hk.symm
  have hbv : some b ≠ v1.ownBlock := fun e => by
    obtain ⟨cells, hc⟩ := hi1 b e
    exact blk_ne hb hc (by decide) rfl
  have hvv : ∀ k, v0.ownBlock = some k → some k ≠ v1.ownBlock := fun k h0 h1 => by
    obtain ⟨cells, hc⟩ := hob k h0.symm
    obtain ⟨cells2, hc2⟩ := hi1 k h1
    exact blk_ne hc hc2 (by decide) rfl
  refine Kd.N_append_rows_step (Kd.slice 57 k57) (w0 := W) (W := W) base hw s x 22 29 (.slice none 0 0) 24 ho Try.underlying22 (by kernel_rfl) rfl (by decide) (by decide) v0 l0 [[]] (some ⟨b, 0, none⟩) 1 1 (fun k => (P k ∨ base ≤ k) ∧ some k ≠ v1.ownBlock) (fun k => k = b) hs hx hN ?_ ?_ (fun k hk => ⟨.inr (by omega), fun e => by have := Kd.R_lt hR k e.symm; omega⟩) (Below.refl _ _) hsz (by omega) ?_
  · intro W' hW
    refine one_nil ?_
    have hbb := (hW b rfl hbW).trans hb
    have := blk_cell hbb 0
    simpa using this
  · rintro k rfl
    exact ⟨⟨.inr hlb, hbv⟩, fun e => by have := hv0 k e.symm; omega⟩
  · intro v0' w1 hn hb1 hg1 hat
    obtain ⟨gn, cap, rfl, _, _, _⟩ := Kd.N_form hn (by simp)
    have hl2 : (l0 ++ [[]]).length = l0.length + 1 := by simp
    rw [hl2] at hn hat ⊢
    refine hK gn cap w1 ⟨hn, Kd.R_grown2 hR rfl hg1 hvv, blk_grown hG hg1 (fun e => by have := hNb gk e.symm; omega), blk_grown hKb hg1 (fun e => by have := hNb k1 e.symm; omega) , hB.trans (hb1.mono (by omega)), by have := hb1.size; omega, hP, hg, hk, hwg, hwk, hne⟩ hb1.size (fun B cs hB' => blk_grown hB' hg1 (fun e => ?_))
    · obtain ⟨cells, hc⟩ := hob B e
      exact blk_ne hc hB' (by decide) rfl
/-- append(counts, 0) in a region. -/
theorem Ends.counts (h : Ends P w base k1 gk v0 v1 t0 t1 l0 l1 W) (hw : Region.wanted o (yielded ops a.tmps) = true) (s x : Operand) (ho : o.op = .call { callee := .builtin .append, args := #[s, x], argTypes := #[25, 25] }) (hs : a.eval s = v1)
    (b : Nat) (hx : a.eval x = .slice (some ⟨b, 0, none⟩) 1 1) (hb : W.heap[b]? = some (.cells #[.int .i64 0] 3 (0, 0))) (hlb : base ≤ b) (hv1 : ∀ k, v1.ownBlock = some k → k < b) (hl : l1.length < 17592186044416)
    (hK : ∀ gn cap w1, Ends P w base k1 gk v0 (.slice (some ⟨gn, 0, none⟩) (l1.length + 1) cap) t0 t1 l0 (l1 ++ [0]) w1 → W.heap.size ≤ w1.heap.size → Kc (a.put o.dst (.slice (some ⟨gn, 0, none⟩) (l1.length + 1) cap)) w1) :
    if Region.wanted o (yielded ops a.tmps) = true then Oper.wp Try.prog o a W Kc Q else Kc (a.put o.dst undef) W := by
  obtain ⟨hN, hR, hG, hKb, hB, hsz, hP, hg, hk, hwg, hwk, hne⟩ := h
  have hbW := blk_lt hb
  have hRb := Kd.R_base hR
  have hcell : W.cell? ⟨b, 0, none⟩ = some (.int .i64 0) := by have := blk_cell hb 0; simpa using this
  refine Kd.R_append_rows_step (Kd.int .i64) (w0 := W) (W := W) base hw s x 25 3 (.int .i64 0) 8 ho Try.underlying25 (by kernel_rfl) rfl (by decide) (by decide) v1 l1 [0] (some ⟨b, 0, none⟩) 1 1 (fun _ => True) (fun _ => False) hs hx hR (one_zero hcell) (fun x cs hx => hx) (fun _ hk => hk.elim) (fun _ _ => trivial) (Below.refl _ _) hsz (by omega) ?_
  intro v1' w1 hn hb1 hg1 hat
  obtain ⟨gn, cap, rfl, _, _, _⟩ := Kd.R_form hn (by simp)
  have hl2 : (l1 ++ [0]).length = l1.length + 1 := by simp
  rw [hl2] at hn hat ⊢
  exact hK gn cap w1 ⟨Kd.N_after hN hg1 hat, hn, blk_grown hG hg1 (fun e => by have := hRb gk e.symm; omega), blk_grown hKb hg1 (fun e => by have := hRb k1 e.symm; omega), hB.trans (hb1.mono (by omega)), by have := hb1.size; omega, hP, hg, hk, hwg, hwk, hne⟩ hb1.size
end
end Go.Proofs.Ytfoagjdcgipcaaa.X
