/- A region that draws its order: two loads may be taken first where what they read is as it was till both are over. -/
import Derived.Test.YtfoagjdcgipcaaaJq
import Derived.OrdersHeld
import Derived.RegionTactic
namespace Go.Proofs.Ytfoagjdcgipcaaa.X
open Go.RowKit Go.Shelf Go.Proofs.YtfoagjdcgipcaaaW.PrintWords
set_option linter.unusedVariables false
section
variable {P : Program} {ops : Array Oper} {Q : Exit → Act → World → Prop} {md : Region.Mode}
/-- As the kit's walk through all orders, with a condition on what has come up and the world behind each operation. -/
def wpAnyL (P : Program) (md : Region.Mode) (ops : Array Oper) (Q : Exit → Act → World → Prop) (S : Array Bool → World → Prop) : Nat → Array Bool → Act → World → Prop
  | 0, listed, a, w => Region.ready md ops listed = [] ∧ Q .normal a w
  | fuel + 1, listed, a, w =>
    (Region.ready md ops listed = [] → Q .normal a w) ∧
    ∀ i ∈ Region.ready md ops listed, wpOp P ops Q i (fun a' w' => S (listed.setIfInBounds i true) w' ∧ wpAnyL P md ops Q S fuel (listed.setIfInBounds i true) a' w') a w
theorem wpAny_of_L {S : Array Bool → World → Prop} : ∀ (fuel : Nat) (listed : Array Bool) (a : Act) (w : World), wpAnyL P md ops Q S fuel listed a w → wpAny P md ops Q fuel listed a w
  | 0, _, _, _, h => h
  | fuel + 1, _, _, _, h => ⟨h.1, fun i hi => wpOp_mono (fun a' w' h' => wpAny_of_L fuel _ a' w' h'.2) (h.2 i hi)⟩
theorem wpAnyL_first {S : Array Bool → World → Prop} {S0 : World → Prop} {J : Array Bool → Prop} {i : Nat} {oi : Oper} {v : Value} (hi : ops[i]? = some oi) (hsel : ∀ (j : Nat) (o : Oper) cs b, ops[j]? = some o → o.op ≠ .select cs b)
    (hQ : ∀ c a w, Q (.panic c) (a.put oi.dst v) w → Q (.panic c) a w)
    (hJ : ∀ l j, J l → l.getD i true = false → j ∈ Region.ready md ops l → j ≠ i → J (l.setIfInBounds j true))
    (hS0 : ∀ l w, J l → S l w → S0 w) (hSm : ∀ l w, S l w ↔ S (l.setIfInBounds i true) w) :
    ∀ (fuel : Nat) (listed : Array Bool) (a : Act) (w : World),
      (∀ j oj, ops[j]? = some oj → j ≠ i → listed.getD j true = false → (∀ e ∈ oj.after, Region.binds md e = true → e.on ≠ i) → oi.apart ops oj = true) →
      i ∈ Region.ready md ops listed → J listed → YieldsIf P ops S0 oi v a → S listed w →
      wpAnyL P md ops Q S fuel (listed.setIfInBounds i true) (a.put oi.dst v) w → wpAnyL P md ops Q S (fuel + 1) listed a w := by
  intro fuel
  induction fuel with
  | zero =>
    intro listed a w _ hr hlm hy hS H
    refine ⟨fun h => (by rw [h] at hr; cases hr), fun j hj => ?_⟩
    by_cases hji : j = i
    · subst hji
      exact hy.wpOp hi (hS0 _ _ hlm hS) ⟨(hSm _ _).1 hS, H⟩
    · have := ready_mono hj hji
      rw [H.1] at this
      cases this
  | succ fuel ih =>
    intro listed a w hfree hr hlm hy hS H
    refine ⟨fun h => (by rw [h] at hr; cases hr), fun j hj => ?_⟩
    by_cases hji : j = i
    · subst hji
      exact hy.wpOp hi (hS0 _ _ hlm hS) ⟨(hSm _ _).1 hS, H⟩
    · have h1 := H.2 j (ready_mono hj hji)
      obtain ⟨hjun, oj, hoj, hall⟩ := mem_ready.1 hj
      have hun0 := (mem_ready.1 hr).1
      have hnot : ∀ e ∈ oj.after, Region.binds md e = true → e.on ≠ i := fun e he hb heq => by
        have h1 := hall e he hb
        rw [heq] at h1
        rcases Nat.lt_or_ge i listed.size with h' | h'
        · simp [h'] at hun0 h1; rw [hun0] at h1; cases h1
        · simp [Array.getElem?_eq_none h'] at h1
      have h2 := wpOp_putIf hoj (hfree j oj hoj hji hjun hnot) (fun cs b => hsel i oi cs b hi) (fun cs b => hsel j oj cs b hoj) hQ hy h1
      have hfree' : ∀ k ok, ops[k]? = some ok → k ≠ i → (listed.setIfInBounds j true).getD k true = false →
          (∀ e ∈ ok.after, Region.binds md e = true → e.on ≠ i) → oi.apart ops ok = true := fun k ok hk hki hun hno => by
        refine hfree k ok hk hki ?_ hno
        by_cases hjk : j = k
        · subst hjk; exact hjun
        · rw [getD_set_ne true hjk] at hun; exact hun
      refine wpOp_mono (fun a' w' h3 => ?_) h2
      obtain ⟨h4, h5, h6⟩ := h3
      rw [Array.setIfInBounds_comm _ _ (Ne.symm hji)] at h5 h6
      have h7 := (hSm _ _).2 h5
      exact ⟨h7, ih (listed.setIfInBounds j true) a' w' hfree' (ready_mono hr (Ne.symm hji)) (hJ listed j hlm hun0 hj hji) h4 h7 h6⟩
/-- The condition: till m0 has come up c0 holds, till m1 has come up c1. -/
def Till (m0 m1 : Nat) (c0 c1 : World → Prop) (l : Array Bool) (w : World) : Prop := (l.getD m0 true = false → c0 w) ∧ (l.getD m1 true = false → c1 w)
variable {m0 m1 : Nat} {c0 c1 : World → Prop}
theorem Till.set {i : Nat} (h0 : m0 ≠ i) (h1 : m1 ≠ i) (l : Array Bool) (w : World) : Till m0 m1 c0 c1 l w ↔ Till m0 m1 c0 c1 (l.setIfInBounds i true) w := by
  unfold Till
  rw [getD_set_ne true (Ne.symm h0), getD_set_ne true (Ne.symm h1)]
/-- m waits for i. -/
theorem waits {i m : Nat} {om : Oper} (hm : ops[m]? = some om) (hw : (om.after.any fun e => Region.binds md e && e.on == i) = true) (l : Array Bool) (hl : l.getD i true = false) : m ∉ Region.ready md ops l := by
  intro h
  obtain ⟨_, o, ho, hall⟩ := mem_ready.1 h
  rw [hm] at ho
  injection ho with ho
  subst ho
  obtain ⟨e, he, hq⟩ := Array.any_eq_true'.1 hw
  simp only [Bool.and_eq_true, beq_iff_eq] at hq
  have := hall e he hq.1
  rw [hq.2] at this
  rcases Nat.lt_or_ge i l.size with h' | h'
  · simp [h'] at hl this; rw [hl] at this; cases this
  · simp [Array.getElem?_eq_none h'] at this
/-- A load that m0 waits for. -/
theorem wpAnyL_load0 {i : Nat} {oi om : Oper} {v : Value} {fuel : Nat} {listed : Array Bool} {a : Act} {w : World} (hi : ops[i]? = some oi)
    (hs : Region.noSelect ops = true) (hf : Region.free md ops listed i = true) (hr : (Region.ready md ops listed).contains i = true)
    (hQ : ∀ c a w, Q (.panic c) (a.put oi.dst v) w → Q (.panic c) a w) (hm : ops[m0]? = some om) (hw : (om.after.any fun e => Region.binds md e && e.on == i) = true) (h0 : m0 ≠ i) (h1 : m1 ≠ i) (hlm : listed.getD m0 true = false)
    (hy : YieldsIf P ops c0 oi v a) (hS : Till m0 m1 c0 c1 listed w)
    (h : wpAnyL P md ops Q (Till m0 m1 c0 c1) fuel (listed.setIfInBounds i true) (a.put oi.dst v) w) : wpAnyL P md ops Q (Till m0 m1 c0 c1) (fuel + 1) listed a w :=
  wpAnyL_first hi (Region.noSelect_spec hs) hQ (J := fun l => l.getD m0 true = false) (fun l j hl hu hj _ => by rw [getD_set_ne true (show j ≠ m0 from fun e => waits hm hw l hu (by rw [← e]; exact hj))]; exact hl) (fun _ _ hl hT => hT.1 hl) (Till.set h0 h1) fuel listed a w (Region.free_spec hi hf) (by simpa using hr) hlm hy hS h
/-- A load that m1 waits for. -/
theorem wpAnyL_load1 {i : Nat} {oi om : Oper} {v : Value} {fuel : Nat} {listed : Array Bool} {a : Act} {w : World} (hi : ops[i]? = some oi)
    (hs : Region.noSelect ops = true) (hf : Region.free md ops listed i = true) (hr : (Region.ready md ops listed).contains i = true)
    (hQ : ∀ c a w, Q (.panic c) (a.put oi.dst v) w → Q (.panic c) a w) (hm : ops[m1]? = some om) (hw : (om.after.any fun e => Region.binds md e && e.on == i) = true) (h0 : m0 ≠ i) (h1 : m1 ≠ i) (hlm : listed.getD m1 true = false)
    (hy : YieldsIf P ops c1 oi v a) (hS : Till m0 m1 c0 c1 listed w)
    (h : wpAnyL P md ops Q (Till m0 m1 c0 c1) fuel (listed.setIfInBounds i true) (a.put oi.dst v) w) : wpAnyL P md ops Q (Till m0 m1 c0 c1) (fuel + 1) listed a w :=
  wpAnyL_first hi (Region.noSelect_spec hs) hQ (J := fun l => l.getD m1 true = false) (fun l j hl hu hj _ => by rw [getD_set_ne true (show j ≠ m1 from fun e => waits hm hw l hu (by rw [← e]; exact hj))]; exact hl) (fun _ _ hl hT => hT.2 hl) (Till.set h0 h1) fuel listed a w (Region.free_spec hi hf) (by simpa using hr) hlm hy hS h
/-- What yields in whatever world. -/
theorem wpAnyL_take {i : Nat} {oi : Oper} {v : Value} {fuel : Nat} {listed : Array Bool} {a : Act} {w : World} (hi : ops[i]? = some oi)
    (hs : Region.noSelect ops = true) (hf : Region.free md ops listed i = true) (hr : (Region.ready md ops listed).contains i = true)
    (hQ : ∀ c a w, Q (.panic c) (a.put oi.dst v) w → Q (.panic c) a w) (h0 : m0 ≠ i) (h1 : m1 ≠ i)
    (hy : Yields P ops oi v a) (hS : Till m0 m1 c0 c1 listed w)
    (h : wpAnyL P md ops Q (Till m0 m1 c0 c1) fuel (listed.setIfInBounds i true) (a.put oi.dst v) w) : wpAnyL P md ops Q (Till m0 m1 c0 c1) (fuel + 1) listed a w :=
  wpAnyL_first (S0 := fun _ => True) hi (Region.noSelect_spec hs) hQ (J := fun _ => True) (fun _ _ _ _ _ _ => trivial) (fun _ _ _ _ => trivial) (Till.set h0 h1) fuel listed a w (Region.free_spec hi hf) (by simpa using hr) trivial hy.yieldsIf hS h
/-- Each of the operations 'rs' comes up next. -/
def AllL (P : Program) (md : Region.Mode) (ops : Array Oper) (Q : Exit → Act → World → Prop) (S : Array Bool → World → Prop) (fuel : Nat) (listed : Array Bool) (a : Act) (w : World) (rs : List Nat) : Prop :=
  ∀ i ∈ rs, wpOp P ops Q i (fun a' w' => S (listed.setIfInBounds i true) w' ∧ wpAnyL P md ops Q S fuel (listed.setIfInBounds i true) a' w') a w
theorem AllL.nil {S : Array Bool → World → Prop} {fuel : Nat} {listed : Array Bool} {a : Act} {w : World} : AllL P md ops Q S fuel listed a w [] := fun _ h => by cases h
theorem AllL.cons {S : Array Bool → World → Prop} {fuel : Nat} {listed : Array Bool} {a : Act} {w : World} {i : Nat} {o : Oper} {rs : List Nat} (ho : ops[i]? = some o)
    (h : ∀ K' : Act → World → Prop, Aside0 (∀ a w, S (listed.setIfInBounds i true) w → wpAnyL P md ops Q S fuel (listed.setIfInBounds i true) a w → K' a w) → if Region.wanted o (yielded ops a.tmps) = true then Oper.wp P o a w K' Q else K' (a.put o.dst undef) w)
    (hs : AllL P md ops Q S fuel listed a w rs) : AllL P md ops Q S fuel listed a w (i :: rs) := fun j hj => by
  rcases List.mem_cons.1 hj with rfl | hj
  · exact wpOp_step ho (fun K' hK => h K' (Q4 fun a w hS hW => hK a w ⟨hS, hW⟩))
  · exact hs j hj
theorem wpAnyL_ready {S : Array Bool → World → Prop} {rs : List Nat} {fuel : Nat} {listed : Array Bool} {a : Act} {w : World} (hr : Region.ready md ops listed = rs) (hne : rs ≠ [])
    (h : AllL P md ops Q S fuel listed a w rs) : wpAnyL P md ops Q S (fuel + 1) listed a w := ⟨fun h0 => absurd (hr ▸ h0) hne, hr ▸ h⟩
theorem wpAnyL_done {S : Array Bool → World → Prop} {listed : Array Bool} {a : Act} {w : World} (hr : Region.ready md ops listed = []) (h : Q .normal a w) : ∀ fuel, wpAnyL P md ops Q S fuel listed a w
  | 0 => ⟨hr, h⟩
  | _ + 1 => ⟨fun _ => h, by rw [hr]; simp⟩
theorem wp_region_L {S : Array Bool → World → Prop} {id : Nat} {a : Act} {w : World} (hm : P.follows .mixedOrders = true)
    (h : wpAnyL P .any ops Q S ops.size (Array.replicate ops.size false) a w.drew) : (Code.region id ops true).wp P Q a w :=
  wp_region_any hm (wpAny_of_L _ _ _ _ h)
end
end Go.Proofs.Ytfoagjdcgipcaaa.X
