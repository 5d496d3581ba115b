/- A map that the call makes: what it holds as a row of keys with their values; a look-up and a store as equations of their runs, for each kind of key whose equality runs to a Bool; no condition but that. -/
import Derived.Test.YtbelnkdbghggmaaDoorWWords
import Derived.Laws.StructEq
import Derived.Laws.World
import Derived.RangeFuncRecord
import Derived.Maps.Own
namespace Go.Proofs.YtbelnkdbghggmaaDoor.Mp
open Go.RowKit Go.Proofs.YtbelnkdbghggmaaDoorW.PrintWords
set_option linter.unusedVariables false
set_option linter.unusedSimpArgs false
set_option linter.unusedSectionVars false

/-- Where a key stands, and its value. -/
def findL {K E : Type} [DecidableEq K] (k : K) : List (K × E) → Nat → Option (Nat × E)
  | [], _ => none
  | (a, v) :: r, i => if k = a then some (i, v) else findL k r (i + 1)
/-- A row with a key's value. -/
def putL {K E : Type} [DecidableEq K] (k : K) (v : E) : List (K × E) → List (K × E)
  | [] => [(k, v)]
  | (a, u) :: r => if k = a then (a, v) :: r else (a, u) :: putL k v r
def getL {K E : Type} [DecidableEq K] (k : K) (z : E) : List (K × E) → E
  | [] => z
  | (a, u) :: r => if k = a then u else getL k z r
section
variable {K E : Type} [DecidableEq K] {encK : K → Value} {encE : E → Value} {P : Program}
/-- Block r is a map that holds m. -/
def Is (encK : K → Value) (encE : E → Value) (W : World) (r : Nat) (m : List (K × E)) : Prop :=
  ∃ es clock, W.heap[r]? = some (.map es clock) ∧ es.toList.map (fun e => (e.key, e.val)) = m.map (fun x => (encK x.1, encE x.2))
/-- A key type whose keys' runs are told. -/
structure Key (P : Program) (kt : TypeId) (encK : K → Value) : Prop where
  eq : ∀ (w : World) (a b : K), (Op.equal kt (encK a) (encK b)).run P w = .ok (decide (a = b)) w
  check : ∀ (w : World) (e : Bool) (a : K), (Instr.checkKey e 10000 kt (encK a)).run P w = .ok () w
  under : ∃ d, P.underlying kt = some d ∧ ∀ a b : K, Instr.sameNow d (encK a) (encK b) = none ∨ Instr.sameNow d (encK a) (encK b) = some (decide (a = b))
  bits : ∀ a : K, Instr.sameBits 10000 (encK a) (encK a) = true
theorem Is.mk_new (W : World) : Is (K := K) (E := E) encK encE (W.alloc (.map #[] 0)) W.heap.size [] := ⟨#[], 0, World.alloc_heap_new W _, rfl⟩
theorem Is.lt {W : World} {r : Nat} {m : List (K × E)} (h : Is encK encE W r m) : r < W.heap.size := by
  obtain ⟨es, c, hh, _⟩ := h
  exact (Array.getElem?_eq_some_iff.1 hh).1
theorem Is.step {W W' : World} {r : Nat} {m : List (K × E)} (h : Is encK encE W r m) (hb : W'.heap[r]? = W.heap[r]?) : Is encK encE W' r m := by
  obtain ⟨es, c, hh, hm⟩ := h
  exact ⟨es, c, hb.trans hh, hm⟩
theorem Is.below {W W' : World} {r : Nat} {m : List (K × E)} (h : Is encK encE W r m) (hb : Below W.heap.size W W') : Is encK encE W' r m := h.step (hb.block r h.lt)
theorem findAsking_run {kt : TypeId} (H : Key P kt encK) (w : World) (k : K) : ∀ (es : List MapEntry) (m : List (K × E)) (i : Nat), es.map (fun e => (e.key, e.val)) = m.map (fun x => (encK x.1, encE x.2)) →
    (Instr.findAsking kt (encK k) es i).run P w = .ok ((findL k m i).map fun x => (x.1, encE x.2)) w
  | [], [], i, _ => by simp [Instr.findAsking, findL]
  | [], _ :: _, i, h => by simp at h
  | _ :: _, [], i, h => by simp at h
  | e :: es, (a, v) :: m, i, h => by
    simp only [List.map_cons, List.cons.injEq, Prod.mk.injEq] at h
    obtain ⟨⟨hk, hv⟩, hr⟩ := h
    rw [Instr.findAsking]
    simp only [Sem.run_bind, hk, H.eq, Result.andThen_ok, findL]
    by_cases hka : k = a
    · simp [hka, hv]
    · simp [hka, findAsking_run H w k es m (i + 1) hr]
theorem findNow_run {d : TypeDesc} (k : K) (hd : ∀ a b : K, Instr.sameNow d (encK a) (encK b) = none ∨ Instr.sameNow d (encK a) (encK b) = some (decide (a = b))) : ∀ (es : List MapEntry) (m : List (K × E)) (i : Nat), es.map (fun e => (e.key, e.val)) = m.map (fun x => (encK x.1, encE x.2)) →
    Instr.findNow d (encK k) es i = none ∨ Instr.findNow d (encK k) es i = some ((findL k m i).map fun x => (x.1, encE x.2))
  | [], [], i, _ => .inr (by simp [Instr.findNow, findL])
  | [], _ :: _, i, h => by simp at h
  | _ :: _, [], i, h => by simp at h
  | e :: es, (a, v) :: m, i, h => by
    simp only [List.map_cons, List.cons.injEq, Prod.mk.injEq] at h
    obtain ⟨⟨hk, hv⟩, hr⟩ := h
    rw [Instr.findNow, hk]
    rcases hd k a with h1 | h1
    · left
      rw [h1]
    · rw [h1]
      by_cases hka : k = a
      · right
        simp [hka, hv, findL]
      · simp only [decide_eq_false hka, findL, if_neg hka]
        exact findNow_run k hd es m (i + 1) hr
theorem findKey_run {kt : TypeId} (H : Key P kt encK) (w : World) (k : K) (es : List MapEntry) (m : List (K × E)) (h : es.map (fun e => (e.key, e.val)) = m.map (fun x => (encK x.1, encE x.2))) :
    (Instr.findKey kt (encK k) es).run P w = .ok ((findL k m 0).map fun x => (x.1, encE x.2)) w := by
  obtain ⟨d, hd, hs⟩ := H.under
  unfold Instr.findKey
  simp only [Sem.run_bind, run_underlying hd, Result.andThen_ok]
  rcases findNow_run k hs es m 0 h with h1 | h1
  · rw [h1]
    exact findAsking_run H w k es m 0 h
  · rw [h1]
    simp
theorem findL_get (k : K) (z : E) : ∀ (m : List (K × E)) (i : Nat), getL k z m = match findL k m i with | some (_, v) => v | none => z
  | [], i => rfl
  | (a, v) :: m, i => by
    simp only [getL, findL]
    by_cases h : k = a
    · simp [h]
    · simp only [if_neg h]
      exact findL_get k z m (i + 1)
theorem findL_spec (k : K) (v : E) : ∀ (m : List (K × E)) (i : Nat), match findL k m i with
    | some (j, _) => i ≤ j ∧ j - i < m.length ∧ (m[j - i]?).map Prod.fst = some k ∧ putL k v m = m.set (j - i) (k, v)
    | none => putL k v m = m ++ [(k, v)]
  | [], i => by simp [findL, putL]
  | (a, u) :: m, i => by
    simp only [findL, putL]
    by_cases h : k = a
    · subst h
      simp
    · simp only [if_neg h]
      have ih := findL_spec k v m (i + 1)
      revert ih
      cases findL k m (i + 1) with
      | none => intro ih; simpa using ih
      | some x =>
        obtain ⟨j, w⟩ := x
        rintro ⟨h1, h2, h3, h4⟩
        have e : j - i = j - (i + 1) + 1 := by omega
        show i ≤ j ∧ j - i < ((a, u) :: m).length ∧ Option.map Prod.fst ((a, u) :: m)[j - i]? = some k ∧ (a, u) :: putL k v m = ((a, u) :: m).set (j - i) (k, v)
        rw [e]
        exact ⟨by omega, by simpa using h2, by simpa using h3, by simpa using h4⟩
end
end Go.Proofs.YtbelnkdbghggmaaDoor.Mp
