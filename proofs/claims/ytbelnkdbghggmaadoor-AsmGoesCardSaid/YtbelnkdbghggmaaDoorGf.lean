/- What asm.good comes to, in plain words; a store into a map, in each world of the same heap. -/
import Derived.Test.YtbelnkdbghggmaaDoorGd
import Derived.Test.YtbelnkdbghggmaaDoorPl
import Derived.Test.YtbelnkdbghggmaaDoorMk
namespace Go.Proofs.YtbelnkdbghggmaaDoor.X
open Go.RowKit Go.Proofs.YtbelnkdbghggmaaDoorW.PrintWords Go.Proofs.YtbelnkdbghggmaaDoorW.PrintLast
set_option linter.unusedVariables false
set_option linter.unusedSimpArgs false
/-- A line whose numbers and texts are as the model's. -/
def wfX (x : S28) : Prop := (-2147483648 ≤ x.f1.f4 ∧ x.f1.f4 ≤ 2147483647) ∧ x.f0.size ≤ 9223372036854775807 ∧ x.f2.size ≤ 9223372036854775807
def jumpsB (op : Int) : Bool := decide (op = 18) || decide (op = 19) || decide (op = 20) || decide (op = 21)
/-- Whether a line is one. -/
def goodB (x : S28) : Bool :=
  if x.f0.toList = ([] : List UInt8) then fitB x.f1.f0 x.f1.f1 x.f1.f2 x.f1.f3 x.f1.f4 && (decide (x.f2.toList = ([] : List UInt8)) || (namedB x.f2 && (decide (x.f1.f0 = 1) || (jumpsB x.f1.f0 && decide (x.f1.f4 = 0)))))
  else namedB x.f0 && ((x.f1.f0 == 0 && (x.f1.f1 == 0 && (x.f1.f2 == 0 && (x.f1.f3 == 0 && (x.f1.f4 == 0))))) && (x.f2.toList == ([] : List UInt8)))
theorem jumps_val (op : Int) : asm_jumps.f op = some (jumpsB op) := by
  unfold asm_jumps.f jumpsB
  by_cases h1 : op = 18 <;> by_cases h2 : op = 19 <;> by_cases h3 : op = 20 <;> by_cases h4 : op = 21 <;> simp [h1, h2, h3, h4]
theorem good_val (x : S28) (h : wfX x) : asm_good.f x.f0 x.f1.f0 x.f1.f1 x.f1.f2 x.f1.f3 x.f1.f4 x.f2 = some (goodB x) := by
  obtain ⟨he, h0, h2⟩ := h
  unfold asm_good.f goodB inst_Fit.f asm_named.f
  rw [if_pos he, if_pos h0, if_pos h2, jumps_val]
  simp only [Option.bind_some]
  by_cases hm : x.f0.toList = ([] : List UInt8)
  · rw [if_pos hm, if_pos hm]
    cases fitB x.f1.f0 x.f1.f1 x.f1.f2 x.f1.f3 x.f1.f4 with
    | false => rw [if_neg (by decide)]; rfl
    | true =>
      rw [if_pos rfl, Bool.true_and]
      by_cases ht : x.f2.toList = ([] : List UInt8)
      · rw [if_pos ht, decide_eq_true ht]; rfl
      · rw [if_neg ht, decide_eq_false ht, Bool.false_or]
        cases namedB x.f2 with
        | false => rw [if_neg (by decide)]; rfl
        | true =>
          rw [if_pos rfl, Bool.true_and]
          by_cases ho : x.f1.f0 = 1
          · rw [if_pos ho, decide_eq_true ho]; rfl
          · rw [if_neg ho, decide_eq_false ho, Bool.false_or]
            cases jumpsB x.f1.f0 with
            | false => rw [if_neg (by decide)]; rfl
            | true =>
              rw [if_pos rfl, Bool.true_and]
              by_cases hz : x.f1.f4 = 0 <;> simp [hz]
  · rw [if_neg hm, if_neg hm]
    cases namedB x.f0 with
    | false => rw [if_neg (by decide)]; rfl
    | true => rw [if_pos rfl]; rfl
theorem good_any (x : S28) (h : wfX x) (w : World) : Calls Tryd.prog 23 #[.agg (lineC x)] w fun e w' => e = .returned (.bool (goodB x)) ∧ Below w.heap.size w w' :=
  asm_good.calls _ _ _ _ _ _ _ _ w (good_val x h)
end Go.Proofs.YtbelnkdbghggmaaDoor.X
namespace Go.Proofs.YtbelnkdbghggmaaDoor.Mp
open Go.RowKit Go.Proofs.YtbelnkdbghggmaaDoorW.PrintWords
set_option linter.unusedVariables false
set_option linter.unusedSimpArgs false
section
variable {K E : Type} [DecidableEq K] {encK : K → Value} {encE : E → Value} {P : Program}
/-- 'm[k] = v', in each world with this heap. -/
theorem mapUpdate_runs {T kt et : TypeId} (hT : P.underlying T = some (.map kt et)) (H : Key P kt encK) {W : World} {r : Nat} {m : List (K × E)} (h : Is encK encE W r m) (k : K) (v : E) :
    ∃ es clock, (∀ W' : World, W'.heap = W.heap → (Instr.mapUpdate T (.map (some r)) (encK k) (encE v)).run P W' = .ok () (W'.putObj r (.map es clock))) ∧ ∀ W' : World, W'.heap[r]? = some (.map es clock) → Is encK encE W' r (putL k v m) := by
  obtain ⟨es, c, hh, hm⟩ := h
  have hsp := findL_spec k v m 0
  unfold Instr.mapUpdate
  simp only [Sem.run_bind, run_underlying hT, Result.andThen_ok]
  have hg : ∀ W' : World, W'.heap = W.heap → (getObj r).run P W' = .ok (.map es c) W' := fun W' hW => by simp [getObj, Sem.run, hW, hh]
  have hset : ∀ (W' : World) (o : Obj), W'.heap = W.heap → (setObj r o).run P W' = .ok () (W'.putObj r o) := fun W' o hW => by simp [setObj, Sem.run, hW, hh, World.putObj]
  revert hsp
  cases hf : findL k m 0 with
  | none =>
    intro hsp
    refine ⟨es.push { key := encK k, val := encE v, born := c }, c + 1, fun W' hW => ?_, fun W' hW => ⟨_, _, hW, ?_⟩⟩
    · simp [hg W' hW, H.check, findKey_run H W' k es.toList m hm, hf, hset W' _ hW]
    · rw [hsp]
      simp [hm]
  | some x =>
    obtain ⟨j, u⟩ := x
    rintro ⟨_, hj, hk, hp⟩
    rw [Nat.sub_zero] at hj hk hp
    have hlen : es.size = m.length := by have := congrArg List.length hm; simpa using this
    have hes : es[j]? = some (es[j]'(by omega)) := Array.getElem?_eq_getElem (by omega)
    have hkey : (es[j]'(by omega)).key = encK k := by
      have h1 := congrArg (fun l => l[j]?) hm
      simp only [List.getElem?_map] at h1
      rw [Array.getElem?_toList, hes] at h1
      rw [List.getElem?_eq_getElem hj] at h1 hk
      simp only [Option.map_some, Option.some.injEq, Prod.mk.injEq] at h1 hk
      rw [h1.1, hk]
    refine ⟨es.modify j fun e => { e with key := encK k, val := encE v }, c, fun W' hW => ?_, fun W' hW => ⟨_, _, hW, ?_⟩⟩
    · simp [hg W' hW, H.check, findKey_run H W' k es.toList m hm, hf, hes, hkey, Instr.keyThatStays, H.bits, hset W' _ hW]
    · rw [hp]
      apply List.ext_getElem?
      intro i
      have h1 := congrArg (fun l => l[i]?) hm
      simp only [List.getElem?_map] at h1
      simp only [List.getElem?_map, Array.getElem?_toList, Array.getElem?_modify, List.getElem?_set]
      rw [Array.getElem?_toList] at h1
      by_cases hij : j = i
      · subst hij
        simp [hj, hes]
      · simp [hij, h1]
end
end Go.Proofs.YtbelnkdbghggmaaDoor.Mp
