/- Contracts of codec.must and codec.caught: a reader throws an error, and it is told. -/
import Derived.Test.YtjcjfeoipcbdoaaDoorCb
import Derived.Tactics
import Derived.Tactics2
import Derived.Defers
import Derived.Recover
import Derived.Laws.Pointers
import Derived.WalkSmall
namespace Go.Proofs.YtjcjfeoipcbdoaaDoor.X
open Go.RowKit Go.Proofs.YtjcjfeoipcbdoaaDoorW.PrintWords Go.Proofs.YtjcjfeoipcbdoaaDoorW.PrintLast Go.Proofs.YtjcjfeoipcbdoaaDoorW.PrintMore
set_option linter.unusedVariables false
set_option linter.unusedSimpArgs false
/-- What a reader throws. -/
def thrown (c : Int) : List PanicEntry := [{ v := .iface 60 (.agg #[.int .i64 c]), recovered := false }]
theorem must_yes (c : Int) (w : World) : Calls Tryd.prog 35 #[.bool true, .int .i64 c] w fun e w' => e = .returned (.tuple #[]) ∧ w = w' := by
  go_enter Tryd.func35, Tryd.ntmps35
  go_wp2
  go_end0
  exact ⟨rfl, rfl⟩
theorem must_no (c : Int) (w : World) : Calls Tryd.prog 35 #[.bool false, .int .i64 c] w fun e w' => e = .panicked (thrown c) ∧ w = w' := by
  go_enter Tryd.func35, Tryd.ntmps35
  go_wp2
  simp [bodyPost, thrown]
set_option maxRecDepth 100000 in
set_option maxHeartbeats 1000000 in
theorem catch_panicking (p : Addr) (x c : Int) (older : List PanicEntry) (w : World) (hlt : p.block < w.heap.size) (hc : w.cell? p = some (.int .i64 x)) (hz : w.frozen? p = false) :
    CallsD Tryd.prog 32 #[.pointer (some p)] (.panicking ({ v := .iface 60 (.agg #[.int .i64 c]), recovered := false } :: older)) w fun e u' w' =>
      e = .returned (.tuple #[]) ∧ u' = .panicking ({ v := .iface 60 (.agg #[.int .i64 c]), recovered := true } :: older) ∧ w' = (w.alloc (.cells #[.int .i64 c] 60)).setCell p (.int .i64 c) := by
  have hne := World.new_ne w p hc
  have hc2 : (w.alloc (.cells #[.int .i64 c] 60)).cell? p = some (.int .i64 x) := ((below_alloc (Below.refl w.heap.size w) (.cells #[.int .i64 c] 60)).cell hlt).trans hc
  have hz2 : (w.alloc (.cells #[.int .i64 c] 60)).frozen? p = false := ((below_alloc (Below.refl w.heap.size w) (.cells #[.int .i64 c] 60)).frozen hlt).trans hz
  have hta : ∀ W, (Instr.typeAssert (.iface 60 (.agg #[.int .i64 c])) 20 60 true).run Tryd.prog W = .ok (.tuple #[.agg #[.int .i64 c], .bool true]) W := fun W => by
    simp [Instr.typeAssert, run_underlying Tryd.underlying60]
  refine callsD_of_wpS Tryd.func32 rfl fun c₀ cs hu => ?_
  apply wpS_seq
  apply wpS_region
  simp [wpOpsS, go_sem, recoverD, hu, Tryd.ntmps32, Exit.thenS]
  simp only [Array.replicate_succ, Array.replicate_zero, List.push_toArray, List.append_toArray, List.setIfInBounds_toArray, List.set_cons_succ, List.set_cons_zero, List.nil_append, List.cons_append]
  refine wpS_of_wp ?_
  go_wp2
  cases c₀
  simp_all [bodyPostS, results, Tryd.results32]
theorem catch_idle (p : Addr) (w : World) :
    CallsD Tryd.prog 32 #[.pointer (some p)] .returning w fun e u' w' => e = .returned (.tuple #[]) ∧ u' = .returning ∧ w' = w := by
  refine callsD_of_wpS Tryd.func32 rfl fun c₀ cs hu => ?_
  apply wpS_seq
  apply wpS_region
  simp [wpOpsS, go_sem, recoverD, hu, Tryd.ntmps32, Exit.thenS]
  simp only [Array.replicate_succ, Array.replicate_zero, List.push_toArray, List.append_toArray, List.setIfInBounds_toArray, List.set_cons_succ, List.set_cons_zero, List.nil_append, List.cons_append]
  refine wpS_of_wp ?_
  go_wp2
  cases c₀
  simp_all [bodyPostS, results, Tryd.results32]
/-! caught -/
set_option maxRecDepth 100000 in
set_option maxHeartbeats 2000000 in
theorem caught_ret20 (caps : Array Value) (w : World) (K : World → Prop) (hK : ∀ w1, K w1 → w1.heap[w.heap.size]? = some (.cells #[.int .i64 0] 25 (0, 0)))
    (H : Calls Tryd.prog 20 caps (w.alloc (.cells #[.int .i64 0] 25)) fun e w' => e = .returned (.tuple #[]) ∧ K w') :
    Calls Tryd.prog 19 #[.func (.func 20) #[] caps] w fun e w' => e = .returned (.int .i64 0) ∧ ∃ w1, K w1 ∧ w' = w1.setCell ⟨w.heap.size, 0, none⟩ (.int .i64 0) := by
  have hmf : ∀ (fn : Fn) (first cap : Array Value) (w : World), (Instr.makeFunc fn first cap).run Tryd.prog w = .ok (.func fn first cap) w := fun _ _ _ _ => rfl
  go_enter_defers Tryd.func19, Tryd.ntmps19
  go_wp2_with (go_at_call 20; refine H.mono ?_; rintro e_ w1 ⟨rfl, hk⟩; have hb := hK w1 hk; have hc := blk_cell hb 0; have hf := blk_frozen hb 0; simp only [List.getElem?_toArray, List.getElem?_cons_zero] at hc)
  refine leaves_cons (f := 32) (args := #[.pointer (some ⟨w.heap.size, 0, none⟩)]) (by simp) (by simp [go_sem]) ?_
  refine (catch_idle ⟨w.heap.size, 0, none⟩ _).mono ?_
  rintro e u' w'' ⟨rfl, rfl, rfl⟩
  have hc2 := blk_cell (blk_put hb 0 (.int .i64 0) rfl) 0
  simp at hc2
  simp [Leaves, settle, results, Tryd.results19, go_sem, hc2]
  exact ⟨w1, hk, rfl⟩
set_option maxRecDepth 100000 in
set_option maxHeartbeats 2000000 in
theorem caught_thr20 (caps : Array Value) (w : World) (c : Int) (K : World → Prop) (hK : ∀ w1, K w1 → w1.heap[w.heap.size]? = some (.cells #[.int .i64 0] 25 (0, 0)))
    (H : Calls Tryd.prog 20 caps (w.alloc (.cells #[.int .i64 0] 25)) fun e w' => e = .panicked (thrown c) ∧ K w') :
    Calls Tryd.prog 19 #[.func (.func 20) #[] caps] w fun e w' => e = .returned (.int .i64 c) ∧ ∃ w1, K w1 ∧ w' = (w1.alloc (.cells #[.int .i64 c] 60)).setCell ⟨w.heap.size, 0, none⟩ (.int .i64 c) := by
  have hmf : ∀ (fn : Fn) (first cap : Array Value) (w : World), (Instr.makeFunc fn first cap).run Tryd.prog w = .ok (.func fn first cap) w := fun _ _ _ _ => rfl
  go_enter_defers Tryd.func19, Tryd.ntmps19
  go_wp2_with (go_at_call 20; refine H.mono ?_; rintro e_ w1 ⟨rfl, hk⟩; have hb := hK w1 hk; have hc := blk_cell hb 0; have hf := blk_frozen hb 0; simp only [List.getElem?_toArray, List.getElem?_cons_zero] at hc)
  refine leaves_cons (f := 32) (args := #[.pointer (some ⟨w.heap.size, 0, none⟩)]) (by simp) (by simp [go_sem]) ?_
  refine (catch_panicking ⟨w.heap.size, 0, none⟩ 0 c [] _ (Array.getElem?_eq_some_iff.1 hb).1 hc hf).mono ?_
  rintro e u' w'' ⟨rfl, rfl, rfl⟩
  have hc2 := blk_cell (blk_put (blk_alloc hb (.cells #[.int .i64 c] 60)) 0 (.int .i64 c) rfl) 0
  simp at hc2
  simp [Leaves, settle, results, Tryd.results19, go_sem, hc2]
  exact ⟨w1, hk, rfl⟩
set_option maxRecDepth 100000 in
set_option maxHeartbeats 2000000 in
theorem caught_ret29 (caps : Array Value) (w : World) (K : World → Prop) (hK : ∀ w1, K w1 → w1.heap[w.heap.size]? = some (.cells #[.int .i64 0] 25 (0, 0)))
    (H : Calls Tryd.prog 29 caps (w.alloc (.cells #[.int .i64 0] 25)) fun e w' => e = .returned (.tuple #[]) ∧ K w') :
    Calls Tryd.prog 19 #[.func (.func 29) #[] caps] w fun e w' => e = .returned (.int .i64 0) ∧ ∃ w1, K w1 ∧ w' = w1.setCell ⟨w.heap.size, 0, none⟩ (.int .i64 0) := by
  have hmf : ∀ (fn : Fn) (first cap : Array Value) (w : World), (Instr.makeFunc fn first cap).run Tryd.prog w = .ok (.func fn first cap) w := fun _ _ _ _ => rfl
  go_enter_defers Tryd.func19, Tryd.ntmps19
  go_wp2_with (go_at_call 29; refine H.mono ?_; rintro e_ w1 ⟨rfl, hk⟩; have hb := hK w1 hk; have hc := blk_cell hb 0; have hf := blk_frozen hb 0; simp only [List.getElem?_toArray, List.getElem?_cons_zero] at hc)
  refine leaves_cons (f := 32) (args := #[.pointer (some ⟨w.heap.size, 0, none⟩)]) (by simp) (by simp [go_sem]) ?_
  refine (catch_idle ⟨w.heap.size, 0, none⟩ _).mono ?_
  rintro e u' w'' ⟨rfl, rfl, rfl⟩
  have hc2 := blk_cell (blk_put hb 0 (.int .i64 0) rfl) 0
  simp at hc2
  simp [Leaves, settle, results, Tryd.results19, go_sem, hc2]
  exact ⟨w1, hk, rfl⟩
set_option maxRecDepth 100000 in
set_option maxHeartbeats 2000000 in
theorem caught_thr29 (caps : Array Value) (w : World) (c : Int) (K : World → Prop) (hK : ∀ w1, K w1 → w1.heap[w.heap.size]? = some (.cells #[.int .i64 0] 25 (0, 0)))
    (H : Calls Tryd.prog 29 caps (w.alloc (.cells #[.int .i64 0] 25)) fun e w' => e = .panicked (thrown c) ∧ K w') :
    Calls Tryd.prog 19 #[.func (.func 29) #[] caps] w fun e w' => e = .returned (.int .i64 c) ∧ ∃ w1, K w1 ∧ w' = (w1.alloc (.cells #[.int .i64 c] 60)).setCell ⟨w.heap.size, 0, none⟩ (.int .i64 c) := by
  have hmf : ∀ (fn : Fn) (first cap : Array Value) (w : World), (Instr.makeFunc fn first cap).run Tryd.prog w = .ok (.func fn first cap) w := fun _ _ _ _ => rfl
  go_enter_defers Tryd.func19, Tryd.ntmps19
  go_wp2_with (go_at_call 29; refine H.mono ?_; rintro e_ w1 ⟨rfl, hk⟩; have hb := hK w1 hk; have hc := blk_cell hb 0; have hf := blk_frozen hb 0; simp only [List.getElem?_toArray, List.getElem?_cons_zero] at hc)
  refine leaves_cons (f := 32) (args := #[.pointer (some ⟨w.heap.size, 0, none⟩)]) (by simp) (by simp [go_sem]) ?_
  refine (catch_panicking ⟨w.heap.size, 0, none⟩ 0 c [] _ (Array.getElem?_eq_some_iff.1 hb).1 hc hf).mono ?_
  rintro e u' w'' ⟨rfl, rfl, rfl⟩
  have hc2 := blk_cell (blk_put (blk_alloc hb (.cells #[.int .i64 c] 60)) 0 (.int .i64 c) rfl) 0
  simp at hc2
  simp [Leaves, settle, results, Tryd.results19, go_sem, hc2]
  exact ⟨w1, hk, rfl⟩
end Go.Proofs.YtjcjfeoipcbdoaaDoor.X
