/- A range over what codec.parts hands out. -/
import Derived.Test.YtjcjfeoipcbdoaaDoorCh
namespace Go.Proofs.YtjcjfeoipcbdoaaDoor.X
open Go.RowKit Go.Shelf Go.Proofs.YtjcjfeoipcbdoaaDoorW.PrintWords Go.Proofs.YtjcjfeoipcbdoaaDoorW.PrintLast Go.Proofs.YtjcjfeoipcbdoaaDoorW.PrintMore
set_option linter.unusedVariables false
set_option linter.unusedSimpArgs false
/-- How a round ends: off its body's end; the iterator's own cell lies as it lay. -/
def endPost (I : List ByteArray → World → Prop) (b : Nat) (s : ByteArray) (xs : List ByteArray) (W : World) : Exit → Act → World → Prop
  | .normal, _, W' => KeepsOthers W W' ∧ I xs W' ∧ W'.heap[b]? = some (.cells #[.string s] 9 (0, 0))
  | _, _, _ => False
theorem range_parts {n : Nat} {g : Operand} {ps : Array Tmp} {assign body : Code} {Q : Exit → Act → World → Prop} {a : Act} {w : World} (h1 : 2 ≤ n) (b : Nat) (s0 : ByteArray) (hs0 : s0.size < 4294967281)
    (hg : a.eval g = .func (.func 45) #[] #[.pointer (some ⟨b, 0, none⟩)]) (hps : ps.size = 1) (hB : w.heap[b]? = some (.cells #[.string s0] 9 (0, 0)))
    (I : List ByteArray → World → Prop) (hd : ∀ pre W k, I pre W → I pre (W.drewN k)) (hset : ∀ pre W v, I pre W → I pre (W.setCell ⟨b, 0, none⟩ v)) (henv : ∀ pre W, I pre W → Env W)
    (hput : ∀ pre W l o o', w.heap.size ≤ l → W.heap[l]? = some o → o.isCells = false → I pre W → I pre (W.putObj l o')) (h0 : ∀ r, I [] ((w.alloc (.deferred (some []))).alloc (.loop r))) (a₁ : ByteArray → Act)
    (hassign : ∀ (l : Nat) (x : ByteArray) (W : World) (K : Act → World → Prop), K (a₁ x) W →
      assign.wpIn (Fence.wide.inRound l) (n - 1 - 1) Tryd.prog (Exit.then K (fun _ _ _ => False)) { tmps := (ps.zip #[.string x]).foldl (fun t (p, v) => t.setIfInBounds p v) a.tmps, defers := [] } W)
    (hbody : ∀ (l : Nat) (pre : List ByteArray) (x s : ByteArray) (W : World), I pre W → pre.length ≤ s0.size → x.size ≤ s0.size → W.heap[b]? = some (.cells #[.string s] 9 (0, 0)) → body.wpIn (Fence.wide.inRound l) (n - 1 - 1) Tryd.prog (endPost I b s (pre ++ [x]) W) (a₁ x) W)
    (hdone : ∀ (D : Nat) (W : World), w.heap.size ≤ D → I (splitB 44 s0) W → W.heap[D]? = some (.deferred (some [])) → Q .normal { a with defers := { target := .collected D, args := #[] } :: a.defers } W) :
    (Code.rangeFunc g ps assign body).wpIn Fence.wide n Tryd.prog Q a w := by
  refine wpIn_rangeFunc ?_
  intro fn hfn
  have hbl : b < w.heap.size := (Array.getElem?_eq_some_iff.1 hB).1
  obtain ⟨rec, hrec⟩ : ∃ rec : LoopState → Option Code → Loop, rec = fun st pe => { state := st, pending := pe, fn, tmps := a.tmps, params := ps, assign, body, defers := w.heap.size } := ⟨_, rfl⟩
  obtain ⟨W1, hW1⟩ : ∃ W1, (w.alloc (.deferred (some []))).alloc (.loop (rec .ready none)) = W1 := ⟨_, rfl⟩
  have hL1 : W1.heap[w.heap.size + 1]? = some (.loop (rec .ready none)) := by
    rw [← hW1]; have := World.alloc_heap_new (w.alloc (.deferred (some []))) (.loop (rec .ready none)); rwa [World.size_alloc] at this
  have hK1 : W1.heap[w.heap.size]? = some (.deferred (some [])) := by
    rw [← hW1]; exact (Below.heap_alloc _ _ _ (by simp)).trans (World.alloc_heap_new w _)
  have hB1 : W1.heap[b]? = some (.cells #[.string s0] 9 (0, 0)) := by rw [← hW1]; exact blk_alloc (blk_alloc hB _) _
  have hI1 : I [] W1 := by rw [← hW1]; exact h0 _
  refine ⟨w.heap.size + 1, [{ target := .collected w.heap.size, args := #[] }], W1, { target := .fn (.func 45) #[.pointer (some ⟨b, 0, none⟩)], args := #[.func (.yield (w.heap.size + 1)) #[] #[]] }, W1, 45,
    #[.func (.yield (w.heap.size + 1)) #[] #[]] ++ #[.pointer (some ⟨b, 0, none⟩)], W1, ?_, ?_, ?_, ?_, fun _ => by omega, ?_⟩
  · rw [← hW1, hrec]; exact run_enterLoop_outer _ _ _ _ _
  · simp only [resolve, hg]
    simp [go_sem]
  · intro f' hf'; simp [Target.leads] at hf'; subst hf'; trivial
  · simp [invoke, go_sem, enters_of Tryd.func45 (by kernel_rfl) rfl]
  · refine (parts1_in (n - 1) (by omega) (w.heap.size + 1) b s0 hs0 (fun pre W => I pre W ∧ W.heap[w.heap.size + 1]? = some (.loop (rec .ready none)) ∧ W.heap[w.heap.size]? = some (.deferred (some []))) W1
      (fun pre W k h => ⟨hd _ _ _ h.1, h.2⟩)
      (fun pre W v h => ⟨hset _ _ _ h.1, (Below.heap_setCell _ _ _ _ (by show w.heap.size + 1 ≠ b; omega)).trans h.2.1, (Below.heap_setCell _ _ _ _ (by show w.heap.size ≠ b; omega)).trans h.2.2⟩)
      (fun pre W h => henv _ _ h.1) ?_ hB1 ⟨hI1, hL1, hK1⟩).mono ?_
    · rintro pre x s W ⟨hi, hl, hk⟩ hpl hx hb
      have hlt : w.heap.size + 1 < W.heap.size := (Array.getElem?_eq_some_iff.1 hl).1
      have hy := run_yield (P := Tryd.prog) (args := #[.string x]) hl (by rw [hrec]; exact hps.symm)
      rw [hrec] at hy
      refine ⟨fn, _, assign, body, hy, roundIn_of_wpIn hfn (hassign _ x W _ ⟨_, run_beginRound hl (by rw [hrec]), ?_⟩)⟩
      have hl2 : (W.putObj (w.heap.size + 1) (.loop { rec .ready none with state := .busy })).heap[w.heap.size + 1]? = some (.loop { rec .ready none with state := .busy }) := World.putObj_heap_same hlt
      have hk2 : (W.putObj (w.heap.size + 1) (.loop { rec .ready none with state := .busy })).heap[w.heap.size]? = some (.deferred (some [])) := (World.putObj_heap_other (by omega)).trans hk
      have hb2 : (W.putObj (w.heap.size + 1) (.loop { rec .ready none with state := .busy })).heap[b]? = some (.cells #[.string s] 9 (0, 0)) := (World.putObj_heap_other (by omega)).trans hb
      refine wpIn_mono (hbody _ pre x s _ (hput _ _ _ _ _ (by omega) hl rfl hi) hpl hx hb2) ?_
      rintro e a3 W3 hp
      cases e with
      | normal =>
        obtain ⟨hk3, hi3, hb3⟩ := hp
        have hl3 := hk3.same _ _ hl2 rfl
        have := run_endRound (P := Tryd.prog) none hl3
        rw [hrec] at this ⊢
        rw [hrec] at hl3
        exact ⟨_, _, this, rfl, ⟨hput _ _ _ _ _ (by omega) hl3 rfl hi3, World.putObj_heap_same (Array.getElem?_eq_some_iff.1 hl3).1, (World.putObj_heap_other (by omega)).trans (hk3.same _ _ hk2 rfl)⟩, (World.putObj_heap_other (by omega)).trans hb3⟩
      | ret => exact hp.elim
      | exit id => exact hp.elim
      | goto t => exact hp.elim
      | panic ch => exact hp.elim
      | outgrown => exact hp.elim
    · rintro e W2 ⟨⟨v, rfl⟩, hi, hl, hk⟩
      exact ⟨none, _, by have := run_endLoop (P := Tryd.prog) hl (by rw [hrec]; simp); rw [hrec] at this; exact this, hdone _ _ (Nat.le_refl _) (hput _ _ _ _ _ (by omega) hl rfl hi) ((World.putObj_heap_other (by omega)).trans hk)⟩
end Go.Proofs.YtjcjfeoipcbdoaaDoor.X
