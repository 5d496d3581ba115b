/- Contract of strings.Join in the form of the printed contracts. -/
import Derived.Test.YtjcjfeoipcbdoaaDoorCa
namespace Go.Proofs.YtjcjfeoipcbdoaaDoor.X
open Go.RowKit Go.Sort Go.Proofs.YtjcjfeoipcbdoaaDoorW.PrintWords Go.Proofs.YtjcjfeoipcbdoaaDoorW.PrintLast Go.Proofs.YtjcjfeoipcbdoaaDoorW.PrintMore
set_option linter.unusedVariables false
set_option linter.unusedSimpArgs false
def joinB (l : List ByteArray) (sep : ByteArray) : ByteArray := ⟨(Lib.join (l.map (·.data.toList)) sep.data.toList).toArray⟩
def strings_Join.f (l0 : List ByteArray) (a1 : ByteArray) : Option ByteArray := if (Lib.join (l0.map (·.data.toList)) a1.data.toList).length ≤ 140737488355328 ∧ l0.length ≤ 140737488355328 then some (joinB l0 a1) else none
theorem strings_Join.calls (A0 : Option Addr) (c0 : Nat) (l0 : List ByteArray) (a1 : ByteArray) (r : ByteArray) (w : World) (hr0 : Kd.C Kd.string w A0 l0.length l0) (hc0 : l0.length ≤ c0) (h : strings_Join.f l0 a1 = some r) :
    Calls Tryd.prog 26 #[.slice A0 l0.length c0, .string a1] w fun e w' => e = .returned (.string r) ∧ Below w.heap.size w w' := by
  unfold strings_Join.f at h
  split at h
  · rename_i hh
    obtain rfl := Option.some.inj h
    cases l0 with
    | nil =>
      refine (Tryd.strings_Join_none A0 c0 a1 w).mono fun e w' ⟨he, hw⟩ => ?_
      subst hw
      exact ⟨he, Below.refl _ _⟩
    | cons x l =>
      obtain ⟨_, hmax, hrow⟩ := hr0
      obtain ⟨ad, rfl, hel⟩ := hrow (by simp)
      have hcell : ∀ (j : Nat) (s : ByteArray), (x :: l)[j]? = some s → w.cell? (ad.add j) = some (.string s) := by
        intro j s hj
        obtain ⟨c, hl, hk, hc⟩ := hel j s hj
        have := hc 0 (.string s) (by
          have hk' : c = [.string s] := hk
          rw [hk']; rfl)
        simpa [Kd.string, Kd.scalar] using this
      obtain ⟨bk, o, sp⟩ := ad
      have h0 := hcell 0 x rfl
      rw [show (⟨bk, o, sp⟩ : Addr).add 0 = ⟨bk, o, sp⟩ from rfl] at h0
      obtain rfl : sp = none := by
        cases sp with
        | none => rfl
        | some q =>
          unfold World.cell? at h0
          simp at h0
          split at h0 <;> simp at h0
      have hbk : bk < w.heap.size := by
        rcases Nat.lt_or_ge bk w.heap.size with h' | h'
        · exact h'
        · unfold World.cell? at h0
          simp [Array.getElem?_eq_none h'] at h0
      exact Tryd.strings_Join bk o c0 (x :: l) a1 w (fun j s hj => by
        have := hcell j s hj
        rwa [Lib.add_plain] at this) hbk hh.2 hc0 hh.1
  · cases h
end Go.Proofs.YtjcjfeoipcbdoaaDoor.X
