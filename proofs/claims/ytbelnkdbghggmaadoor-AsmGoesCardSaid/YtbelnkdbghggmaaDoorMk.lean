/- Maps made by the call with strings as keys: a look-up that tells whether there is such a key. -/
import Derived.Test.YtbelnkdbghggmaaDoorXx0
import Derived.Test.YtbelnkdbghggmaaDoorMp
namespace Go.Proofs.YtbelnkdbghggmaaDoor.Mp
open Go.RowKit Go.Proofs.YtbelnkdbghggmaaDoorW.PrintWords
set_option linter.unusedVariables false
set_option linter.unusedSimpArgs false
section
variable {K E : Type} [DecidableEq K] {encK : K → Value} {encE : E → Value} {P : Program}
def hasL (k : K) : List (K × E) → Bool
  | [] => false
  | (a, _) :: r => if k = a then true else hasL k r
theorem findL_has (k : K) : ∀ (m : List (K × E)) (i : Nat), (findL k m i).isSome = hasL k m
  | [], i => rfl
  | (a, v) :: m, i => by
    simp only [findL, hasL]
    split
    · rfl
    · exact findL_has k m (i + 1)
/-- 'v, ok := m[k]'. -/
theorem lookup_ok_run {T kt et : TypeId} (hT : P.underlying T = some (.map kt et)) (H : Key P kt encK) {z : E} (hz : ∀ w, (zeroValue et).run P w = .ok (encE z) w) {W : World} {r : Nat} {m : List (K × E)} (h : Is encK encE W r m) (k : K) :
    (Instr.lookup T (.map (some r)) (encK k) true).run P W = .ok (.tuple #[encE (getL k z m), .bool (hasL k m)]) W := by
  obtain ⟨es, c, hh, hm⟩ := h
  unfold Instr.lookup
  simp only [Sem.run_bind, run_underlying hT, Result.andThen_ok]
  have hg : (getObj r).run P W = .ok (.map es c) W := by simp [getObj, Sem.run, hh]
  have hf := findKey_run H W k es.toList m hm
  rw [findL_get k z m 0, ← findL_has k m 0]
  cases hx : findL k m 0 with
  | none =>
    rw [hx] at hf
    simp [hg, H.check, hf, hz]
  | some x =>
    rw [hx] at hf
    simp [hg, H.check, hf]
end
theorem beqB (a b : ByteArray) : (a == b) = decide (a = b) := by
  cases a; cases b; rename_i x y
  show (x == y) = _
  rw [Bool.eq_iff_iff]
  simp
def encS (s : ByteArray) : Value := .string s
def encN (n : Int) : Value := .int .i64 n
theorem key9 : Key Tryd.prog 9 encS where
  eq w a b := by
    rw [← beqB]
    show (Op.equalIn (9999 + 1) 9 (.string a) (.string b)).run Tryd.prog w = .ok (a == b) w
    rw [Op.equalIn.eq_def]
    simp only [run_underlying Tryd.underlying9, Sem.run_bind, Result.andThen_ok]
    rfl
  check w e a := by kernel_rfl
  under := ⟨_, Tryd.underlying9, fun a b => by simp [Instr.sameNow, encS]; exact beqB a b⟩
  bits a := by simp [Instr.sameBits, encS]; rw [beqB]; simp
theorem zero3 (w : World) : (zeroValue 3).run Tryd.prog w = .ok (.int .i64 0) w := by kernel_rfl
end Go.Proofs.YtbelnkdbghggmaaDoor.Mp
