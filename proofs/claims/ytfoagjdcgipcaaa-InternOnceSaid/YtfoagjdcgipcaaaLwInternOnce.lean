/- The given statement of InternOnce: labels that were asked for are at their places as long as they are asked for, whatever is dropped between, and when all were dropped nothing is left; the call of the Go function returns true and leaves what it read as it was; no condition. -/
import Derived.Test.YtfoagjdcgipcaaaRows
import Derived.Test.YtfoagjdcgipcaaaOp
import Derived.Test.YtfoagjdcgipcaaaPuO
import Derived.WalkKit
import Derived.ProofKit
import Derived.OpenShut
import Derived.ShutString
import Derived.ChangeOld
import Derived.Below
import Derived.SizedLaws
import Derived.Carry
namespace Go.Proofs.Ytfoagjdcgipcaaa.internOnce
open Go.ChangeShapes Go.WideShapes Go.ChangeAt Go.RowKit Go.Proofs.Ytfoagjdcgipcaaa.Op Go.Proofs.YtfoagjdcgipcaaaW.PrintWords 
open Go.ChangeMaps (open_string shut_string)
set_option linter.unusedVariables false
theorem opens57 : Opens Try.prog 57 X.k57 (fun x => (Lit.int .u64 x.f0).wf = true ∧ (Lit.int .i64 x.f1).wf = true) :=
  Opens.struct Try.underlying57 (by kernel_rfl) (OpensF.cons rfl rfl (by kernel_rfl) (Opens.int Try.underlying55) rfl (OpensF.last rfl rfl (by kernel_rfl) (Opens.int Try.underlying3))) (fun x : X.S57 => (x.f0, x.f1)) (fun a => ⟨a.1, a.2⟩) (fun _ => rfl)
theorem opens29 : Opens Try.prog 29 (Kd.slice 57 X.k57) (fun l => ∀ x ∈ l, (Lit.int .u64 x.f0).wf = true ∧ (Lit.int .i64 x.f1).wf = true) := Opens.slice Try.underlying29 (by kernel_rfl) opens57
theorem opens22 : Opens Try.prog 22 (Kd.slice 29 (Kd.slice 57 X.k57)) (fun r => ∀ l ∈ r, ∀ x ∈ l, (Lit.int .u64 x.f0).wf = true ∧ (Lit.int .i64 x.f1).wf = true) := Opens.slice Try.underlying22 (by kernel_rfl) opens29
theorem opensB : Opens Try.prog 23 (Kd.slice 4 Kd.bool) (fun r => ∀ x ∈ r, True) := Opens.slice Try.underlying23 (by kernel_rfl) (Opens.bool Try.underlying4)
theorem own : ownKnob Try.prog.godebug = none := by kernel_rfl
theorem laidOut : laidOutB Try.prog = true := by kernel_rfl
set_option maxRecDepth 100000 in
theorem lifted (os : Os) (started : os.Started) (H : Type) (enc : TypeId × Value → H) :
    ReturnsInHanded {} Try.checked os 3 .any (Rows.internOnceSpec.pre6 enc Try.prog Try.f3 Rows.internOnceRow.domain false) (Rows.internOnceSpec.post enc Try.prog Try.f3 false true false false) := by
  refine returnsInHanded_of_change_sized (C := Try.checked) own started (by kernel_rfl) Try.func3
    (ChangeSpec.witness6 (enc := enc) (C := Try.checked) false ⟨#[], #[.slice none 0 0, .slice none 0 0], []⟩ 8 (by kernel_rfl) (by kernel_rfl) (by kernel_rfl) (by kernel_rfl)) ?_
  intro W base args ds gs before hval0 hW hcnd hsz0 _
  have hval : ∀ (j : Nat) t v, Try.f3.params[j]? = some t → args[j]? = some v → Value.okWide Try.prog W .any base t v := hval0
  have hW' := hW
  obtain ⟨p, q, hA0, hV, rfl, hfz, hnd⟩ := hW
  have hA : DataW.TrodAll enc Try.prog W 0 (fun _ => true) true Try.f3.params.toList args.toList ds p := hA0
  rw [Try.params3] at hA hval
  obtain ⟨v0, vs0, d0, ds0, p0, q0, hargs, rfl, rfl, h0, r0⟩ := trodAll_cons hA
  obtain ⟨v1, vs1, d1, ds1, p1, q1, rfl, rfl, rfl, h1, r1⟩ := trodAll_cons r0
  obtain ⟨rfl, rfl, rfl⟩ := trodAll_nil r1
  obtain rfl : args = #[v0, v1] := by cases args; simp_all
  obtain ⟨rfl, rfl⟩ := trodVars_none hV
  obtain ⟨A0, n0, c0, rfl⟩ := okWide_slice Try.underlying22 (hval 0 22 v0 rfl rfl)
  have k0 := h0
  have lt0 : ∀ x ∈ p0, x.block < W.heap.size := by
    obtain ⟨m, hm⟩ := k0
    exact DataW.trod_lt m _ _ _ hm
  obtain ⟨l0, rfl, hc0, hr0, hg0⟩ := Opens.arg opens22 h0
  obtain ⟨A1, n1, c1, rfl⟩ := okWide_slice Try.underlying23 (hval 1 23 v1 rfl rfl)
  have k1 := h1
  have lt1 : ∀ x ∈ p1, x.block < W.heap.size := by
    obtain ⟨m, hm⟩ := k1
    exact DataW.trod_lt m _ _ _ hm
  obtain ⟨l1, rfl, hc1, hr1, hg1⟩ := Opens.arg opensB h1
  clear hA0 hval0 hsz0
  refine ((fun hk => X.curtilagelaw05_InternOnce.calls hk.choose A0 c0 l0 A1 c1 l1 W hr0 hc0 hr1 hc1 hk.choose_spec) (X.Tb.InternOnce_true l0 l1 (fun j => X.Tb.labs_len hr0 j))).mono fun e W' ⟨he, bel⟩ => ?_
  subst he
  exact ⟨_, rfl, _, _, _, [], _, [], hW', trodAll_mk1 (shut_bool Try.underlying4 _), (trodAll_cons_mk (Below.trod laidOut (by kernel_rfl) (of_decide_eq_true (by kernel_rfl)) k0 bel lt0) (trodAll_cons_mk (Below.trod laidOut (by kernel_rfl) (of_decide_eq_true (by kernel_rfl)) k1 bel lt1) trodAll_mk0)), rfl, bel.frame _, fun h => by cases h⟩
theorem over : Rows.internOnceRow.holds Try.pinned (OpenSpec.ofChange Rows.internOnceSpec) :=
  OpenClaim.holds_of_wide 3 Try.f3 rfl rfl rfl rfl rfl rfl rfl ⟨rfl, rfl, rfl, rfl, rfl⟩ rfl rfl rfl rfl rfl (by kernel_rfl) Try.func3 (by kernel_rfl)
    (of_decide_eq_true (by kernel_rfl)) (by unfold Func.isWrapper; first | (rw [if_pos (by decide +kernel)]; kernel_rfl) | (rw [if_neg (by decide +kernel)]; exact ⟨rfl, rfl⟩))
    (fun os started H enc _ => lifted os started H enc)
theorem proved : Rows.InternOnceSaid := over
end Go.Proofs.Ytfoagjdcgipcaaa.internOnce
namespace Go.Proofs.Ytfoagjdcgipcaaa
/-- The row, under a short name, for the claim. -/
theorem internOnce_holds : Rows.InternOnceSaid := internOnce.proved
end Go.Proofs.Ytfoagjdcgipcaaa
