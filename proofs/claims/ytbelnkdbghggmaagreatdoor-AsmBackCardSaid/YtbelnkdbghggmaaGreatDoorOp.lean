/- What a row reads of an argument, kind by kind: from the reading of cells at a type to the list or number that they hold; no condition but the type's own shape. -/
import Derived.Test.YtbelnkdbghggmaaGreatDoorMg1
import Derived.Deep.Slices
import Derived.ChangeArms
import Derived.ChangeSame
namespace Go.Proofs.YtbelnkdbghggmaaGreatDoor.Op
open Go.RowKit Go.ChangeShapes Go.WideShapes Go.Deep Go.Proofs.YtbelnkdbghggmaaGreatDoorW.PrintWords
set_option linter.unusedVariables false

/-- What is read at type t has cells of kind d, of something that is G. -/
def Opens {α : Type} (P : Program) (t : TypeId) (d : Kd α) (G : α → Prop) : Prop :=
  ∀ (H : Type) (enc : TypeId × Value → H) (W : World) (base : Nat) (spare : Nat → Bool) (held : Bool) (fuel : Nat) (cs : List Value) (x : DataW H × List MemPlace), DataW.trod enc P W base spare held fuel t cs = some x → ∃ a : α, d.K W a cs ∧ G a
theorem Opens.int {P : Program} {t : TypeId} {k : IntKind} (ht : P.underlying t = some (.int k)) : Opens P t (Kd.int k) (fun n => (Lit.int k n).wf = true) := fun H enc W base spare held fuel cs x h => by
  obtain ⟨n, rfl, _, hw⟩ := DataW.trod_int ht h
  exact ⟨n, rfl, hw⟩
theorem Opens.string {P : Program} {t : TypeId} (ht : P.underlying t = some .string) : Opens P t Kd.string (fun s => s.size ≤ 9223372036854775807) := fun H enc W base spare held fuel cs x h => by
  obtain ⟨n, rfl, _, hs⟩ := DataW.trod_string ht h
  exact ⟨n, rfl, by simpa [maxLen] using hs⟩
theorem Opens.slice {α : Type} {P : Program} {t e : TypeId} {d : Kd α} {G : α → Prop} (ht : P.underlying t = some (.slice e)) (hc : P.cellsOf e = d.sz) (h : Opens P e d G) : Opens P t (Kd.slice e d) (fun l => ∀ a ∈ l, G a) := fun H enc W base spare held fuel cs x hx => by
  rcases open_slice ht hx with ⟨rfl, _⟩ | ⟨a, len, cap, m, n, D, Pl, rfl, _, hl, hm, hmm, _, hel⟩
  · exact ⟨[], ⟨none, 0, rfl, Nat.le_refl _, rfl, Nat.zero_le _, fun h0 => absurd h0 (Nat.lt_irrefl _)⟩, fun a ha => by cases ha⟩
  · have hlm : len ≤ m := by rw [hmm]; split <;> omega
    have each : ∀ i : Fin len, ∃ b : α, G b ∧ ∃ c : List Value, c.length = d.sz ∧ d.K W b c ∧ ∀ j u, c[j]? = some u → W.cell? (a.add (i.1 * d.sz + j)) = some u := fun i => by
      obtain ⟨cs', h1, h2⟩ := hel i.1 (Nat.lt_of_lt_of_le i.2 hlm)
      obtain ⟨b, hk, hg⟩ := h H enc W base spare held n cs' _ h2
      obtain ⟨_, hlen, hcell⟩ := World.cells?_some h1
      rw [hc] at hlen hcell
      refine ⟨b, hg, cs', hlen, hk, fun j u hu => ?_⟩
      have hj : j < cs'.length := (List.getElem?_eq_some_iff.1 hu).1
      have := hcell j (by omega)
      rw [Go.Deep.add_add] at this
      rw [this, hu]
    have hf : ∃ f : Fin len → α, ∀ i, G (f i) ∧ ∃ c : List Value, c.length = d.sz ∧ d.K W (f i) c ∧ ∀ j u, c[j]? = some u → W.cell? (a.add (i.1 * d.sz + j)) = some u := ⟨fun i => Classical.choose (each i), fun i => Classical.choose_spec (each i)⟩
    obtain ⟨f, hf⟩ := hf
    have hlen : (List.ofFn f).length = len := List.length_ofFn
    refine ⟨List.ofFn f, ⟨some a, cap, by rw [hlen], by rw [hlen]; exact hl, rfl, by rw [hlen]; unfold maxLen at hm; omega, fun _ => ⟨a, rfl, fun j p hj => ?_⟩⟩, fun b hb => ?_⟩
    · have hj' : j < len := by have := (List.getElem?_eq_some_iff.1 hj).1; omega
      have hp : f ⟨j, hj'⟩ = p := by
        rw [List.getElem?_eq_getElem (by omega)] at hj
        simpa using hj
      obtain ⟨_, c, hcl, hk, hcc⟩ := hf ⟨j, hj'⟩
      exact ⟨c, hcl, hp ▸ hk, hcc⟩
    · obtain ⟨i, rfl⟩ := (List.mem_ofFn).1 hb
      exact (hf i).1
theorem Opens.mono {α : Type} {P : Program} {t : TypeId} {d : Kd α} {G G' : α → Prop} (h : Opens P t d G) (hg : ∀ a, G a → G' a) : Opens P t d G' := fun H enc W base spare held fuel cs x hx => by
  obtain ⟨a, hk, h1⟩ := h H enc W base spare held fuel cs x hx
  exact ⟨a, hk, hg a h1⟩
/-- A struct's fields, from the i-th on: its cells behind the first o. -/
def OpensF {α : Type} (P : Program) (fs : Array Field) (i o : Nat) (d : Kd α) (G : α → Prop) : Prop :=
  ∀ (H : Type) (enc : TypeId × Value → H) (W : World) (base : Nat) (spare : Nat → Bool) (held : Bool) (n : Nat) (cs : List Value) (xs : List (DataW H × List MemPlace)), xs.length = fs.size → cs.length = o + d.sz →
    (∀ (j : Nat) (f : Field), fs[j]? = some f → DataW.trod enc P W base spare held n f.type ((cs.drop f.offset).take (P.cellsOf f.type)) = xs[j]?) → ∃ a : α, d.K W a (cs.drop o) ∧ G a
theorem OpensF.last {α : Type} {P : Program} {fs : Array Field} {i o : Nat} {d : Kd α} {G : α → Prop} {f : Field} (hf : fs[i]? = some f) (ho : f.offset = o) (hc : P.cellsOf f.type = d.sz) (h : Opens P f.type d G) : OpensF P fs i o d G := fun H enc W base spare held n cs xs hxs hl hx => by
  have h1 := hx i f hf
  have hi : i < xs.length := by have := (Array.getElem?_eq_some_iff.1 hf).1; omega
  rw [List.getElem?_eq_getElem hi, ho, hc, List.take_of_length_le (by rw [List.length_drop]; omega)] at h1
  exact h H enc W base spare held n _ _ h1
theorem OpensF.cons {α β : Type} {P : Program} {fs : Array Field} {i o : Nat} {d : Kd α} {d' : Kd β} {G : α → Prop} {G' : β → Prop} {f : Field} (hf : fs[i]? = some f) (ho : f.offset = o) (hc : P.cellsOf f.type = d.sz) (h : Opens P f.type d G) {o' : Nat} (ho' : o + d.sz = o') (h' : OpensF P fs (i + 1) o' d' G') :
    OpensF P fs i o (Kd.pair d d') (fun x => G x.1 ∧ G' x.2) := fun H enc W base spare held n cs xs hxs hl hx => by
  subst ho'
  have hl' : cs.length = o + d.sz + d'.sz := by rw [hl]; exact (Nat.add_assoc _ _ _).symm
  have h1 := hx i f hf
  have hi : i < xs.length := by have := (Array.getElem?_eq_some_iff.1 hf).1; omega
  rw [List.getElem?_eq_getElem hi, ho, hc] at h1
  obtain ⟨a, hk, hg⟩ := h H enc W base spare held n _ _ h1
  obtain ⟨b, hk', hg'⟩ := h' H enc W base spare held n cs xs hxs hl' hx
  exact ⟨(a, b), ⟨_, _, by rw [← List.drop_drop, List.take_append_drop], hk, hk'⟩, hg, hg'⟩
/-- A struct, by its fields. -/
theorem Opens.struct {α β : Type} {P : Program} {t : TypeId} {fs : Array Field} {d : Kd α} {G : α → Prop} (ht : P.underlying t = some (.struct fs)) (hc : P.cellsOf t = d.sz) (h : OpensF P fs 0 0 d G) (f : β → α) (g : α → β) (hfg : ∀ a, f (g a) = a) : Opens P t (Kd.iso d f) (fun b => G (f b)) := fun H enc W base spare held fuel cs x hx => by
  obtain ⟨xs, n, _, _, hl, hxl, hel⟩ := DataW.trod_struct ht hx
  obtain ⟨a, hk, hg⟩ := h H enc W base spare held n cs xs hxl (by rw [hl, hc, Nat.zero_add]) hel
  refine ⟨g a, ?_, (by rw [hfg]; exact hg : G (f (g a)))⟩
  show d.K W (f (g a)) cs
  rw [hfg]
  simpa using hk
/-- A slice argument. -/
theorem Opens.arg {α : Type} {P : Program} {t e : TypeId} {d : Kd α} {G : List α → Prop} (h : Opens P t (Kd.slice e d) G) {H : Type} {enc : TypeId × Value → H} {W : World} {base : Nat} {spare : Nat → Bool} {held : Bool} {A : Option Addr} {n c : Nat} {D : DataW H} {ps : List MemPlace}
    (hd : DataW.Trod enc P W base spare held t (.slice A n c) D ps) : ∃ l : List α, n = l.length ∧ l.length ≤ c ∧ d.C W A l.length l ∧ G l := by
  obtain ⟨fuel, hf⟩ := hd
  obtain ⟨l, ⟨A', c', hcs, hl, hk⟩, hg⟩ := h H enc W base spare held fuel _ _ hf
  simp [Value.cells] at hcs
  obtain ⟨rfl, rfl, rfl⟩ := hcs
  exact ⟨l, rfl, hl, hk, hg⟩
end Go.Proofs.YtbelnkdbghggmaaGreatDoor.Op
