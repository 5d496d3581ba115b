/- The given statement of InternDoes: which tables can be, which are the same, places and labels, and tables behind a label that is asked for or dropped are the document's and stay fit; the call of the Go function returns true and leaves what it read as it was; no condition. -/
import Derived.Test.YtfoagjdcgipcaaaRows
import Derived.Test.YtfoagjdcgipcaaaOp
import Derived.Test.YtfoagjdcgipcaaaPuInternDoes
import Derived.WalkKit
import Derived.ProofKit
import Derived.OpenShut
import Derived.ShutString
import Derived.ChangeOld
import Derived.Below
import Derived.SizedLaws
import Derived.Carry
namespace Go.Proofs.Ytfoagjdcgipcaaa.internDoes
open Go.ChangeShapes Go.WideShapes Go.ChangeAt Go.RowKit Go.Proofs.Ytfoagjdcgipcaaa.Op Go.Proofs.YtfoagjdcgipcaaaW.PrintWords
open Go.ChangeMaps (open_string shut_string)
set_option linter.unusedVariables false
theorem opens57 : Opens Try.prog 57 X.k57 (fun x => (Lit.int .u64 x.f0).wf = true ∧ (Lit.int .i64 x.f1).wf = true) :=
  Opens.struct Try.underlying57 (by kernel_rfl) (OpensF.cons rfl rfl (by kernel_rfl) (Opens.int Try.underlying55) rfl (OpensF.last rfl rfl (by kernel_rfl) (Opens.int Try.underlying3))) (fun x : X.S57 => (x.f0, x.f1)) (fun a => ⟨a.1, a.2⟩) (fun _ => rfl)
theorem opens29 : Opens Try.prog 29 (Kd.slice 57 X.k57) (fun l => ∀ x ∈ l, (Lit.int .u64 x.f0).wf = true ∧ (Lit.int .i64 x.f1).wf = true) := Opens.slice Try.underlying29 (by kernel_rfl) opens57
theorem opens22 : Opens Try.prog 22 (Kd.slice 29 (Kd.slice 57 X.k57)) (fun r => ∀ l ∈ r, ∀ x ∈ l, (Lit.int .u64 x.f0).wf = true ∧ (Lit.int .i64 x.f1).wf = true) := Opens.slice Try.underlying22 (by kernel_rfl) opens29
theorem opens25 : Opens Try.prog 25 (Kd.slice 3 (Kd.int .i64)) (fun r => ∀ x ∈ r, (Lit.int .i64 x).wf = true) := Opens.slice Try.underlying25 (by kernel_rfl) (Opens.int Try.underlying3)
def gL (r : List (List X.S57)) : Prop := ∀ l ∈ r, ∀ x ∈ l, (Lit.int .u64 x.f0).wf = true ∧ (Lit.int .i64 x.f1).wf = true
def gC (r : List Int) : Prop := ∀ x ∈ r, (Lit.int .i64 x).wf = true
theorem opens27 : OpensF Try.prog #[{ name := "Labels", type := 22, offset := 0, embedded := false, tag := "", pkgPath := "", byteOffset := 0 }, { name := "Counts", type := 25, offset := 1, embedded := false, tag := "", pkgPath := "", byteOffset := 24 }] 0 0 (Kd.pair (Kd.slice 29 (Kd.slice 57 X.k57)) (Kd.slice 3 (Kd.int .i64))) (fun x => gL x.1 ∧ gC x.2) :=
  OpensF.cons (G := gL) (G' := gC) (i := 0) (f := { name := "Labels", type := 22, offset := 0, embedded := false, tag := "", pkgPath := "", byteOffset := 0 }) (o' := 1) rfl rfl (by kernel_rfl) opens22 rfl (OpensF.last (f := { name := "Counts", type := 25, offset := 1, embedded := false, tag := "", pkgPath := "", byteOffset := 24 }) rfl rfl (by kernel_rfl) opens25)
theorem own : ownKnob Try.prog.godebug = none := by kernel_rfl
theorem laidOut : laidOutB Try.prog = true := by kernel_rfl
set_option maxRecDepth 100000 in
theorem lifted (os : Os) (started : os.Started) (H : Type) (enc : TypeId × Value → H) :
    ReturnsInHanded {} Try.checked os 5 .any (Rows.internDoesSpec.pre6 enc Try.prog Try.f5 Rows.internDoesRow.domain false) (Rows.internDoesSpec.post enc Try.prog Try.f5 false true false false) := by
  refine returnsInHanded_of_change_sized (C := Try.checked) own started (by kernel_rfl) Try.func5
    (ChangeSpec.witness6 (enc := enc) (C := Try.checked) false ⟨#[], #[.agg #[.slice none 0 0, .slice none 0 0], .agg #[.slice none 0 0, .slice none 0 0], .slice none 0 0, .int .i64 0], []⟩ 8 (by kernel_rfl) (by kernel_rfl) (by kernel_rfl) (by kernel_rfl)) ?_
  intro W base args ds gs before hval0 hW hcnd hsz0 _
  have hval : ∀ (j : Nat) t v, Try.f5.params[j]? = some t → args[j]? = some v → Value.okWide Try.prog W .any base t v := hval0
  have hW' := hW
  obtain ⟨p, q, hA0, hV, rfl, hfz, hnd⟩ := hW
  have hA : DataW.TrodAll enc Try.prog W 0 (fun _ => true) true Try.f5.params.toList args.toList ds p := hA0
  rw [Try.params5] at hA hval
  obtain ⟨v0, vs0, d0, ds0, p0, q0, hargs, rfl, rfl, h0, r0⟩ := trodAll_cons hA
  obtain ⟨v1, vs1, d1, ds1, p1, q1, rfl, rfl, rfl, h1, r1⟩ := trodAll_cons r0
  obtain ⟨v2, vs2, d2, ds2, p2, q2, rfl, rfl, rfl, h2, r2⟩ := trodAll_cons r1
  obtain ⟨v3, vs3, d3, ds3, p3, q3, rfl, rfl, rfl, h3, r3⟩ := trodAll_cons r2
  obtain ⟨rfl, rfl, rfl⟩ := trodAll_nil r3
  obtain rfl : args = #[v0, v1, v2, v3] := by cases args; simp_all
  obtain ⟨rfl, rfl⟩ := trodVars_none hV
  have k0 := h0
  have lt0 : ∀ x ∈ p0, x.block < W.heap.size := by
    obtain ⟨m, hm⟩ := k0
    exact DataW.trod_lt m _ _ _ hm
  obtain ⟨cs0, rfl, _⟩ := okWide_struct Try.underlying27 (hval 0 27 v0 rfl rfl)
  obtain ⟨A0, c0, l0, B0, e0, m0, rfl, hc0, hr0, hg0, hd0, hs0, hf0⟩ := Opens.arg2 (G := gL) (G' := gC) Try.underlying27 (by kernel_rfl) opens27 h0
  have k1 := h1
  have lt1 : ∀ x ∈ p1, x.block < W.heap.size := by
    obtain ⟨m, hm⟩ := k1
    exact DataW.trod_lt m _ _ _ hm
  obtain ⟨cs1, rfl, _⟩ := okWide_struct Try.underlying27 (hval 1 27 v1 rfl rfl)
  obtain ⟨A1, c1, l1, B1, e1, m1, rfl, hc1, hr1, hg1, hd1, hs1, hf1⟩ := Opens.arg2 (G := gL) (G' := gC) Try.underlying27 (by kernel_rfl) opens27 h1
  obtain ⟨A2, n2, c2, rfl⟩ := okWide_slice Try.underlying29 (hval 2 29 v2 rfl rfl)
  have k2 := h2
  have lt2 : ∀ x ∈ p2, x.block < W.heap.size := by
    obtain ⟨m, hm⟩ := k2
    exact DataW.trod_lt m _ _ _ hm
  obtain ⟨l2, rfl, hc2, hr2, hg2⟩ := Opens.arg opens29 h2
  obtain ⟨a3, rfl, rfl, rfl, w3⟩ := open_int Try.underlying3 (hval 3 3 v3 rfl rfl) h3
  clear hA0 hval0 hsz0
  refine ((fun hk => X.curtilagelaw05_InternDoes.calls hk.choose A0 c0 l0 B0 e0 m0 A1 c1 l1 B1 e1 m1 A2 c2 l2 a3 W hr0 hc0 hs0 hd0 hr1 hc1 hs1 hd1 hr2 hc2 hk.choose_spec) (X.Tb.InternDoes_true l0 m0 l1 m1 l2 a3)).mono fun e W' ⟨he, bel⟩ => ?_
  subst he
  exact ⟨_, rfl, _, _, _, [], _, [], hW', trodAll_mk1 (shut_bool Try.underlying4 _), (trodAll_cons_mk (Below.trod laidOut (by kernel_rfl) (of_decide_eq_true (by kernel_rfl)) k0 bel lt0) (trodAll_cons_mk (Below.trod laidOut (by kernel_rfl) (of_decide_eq_true (by kernel_rfl)) k1 bel lt1) (trodAll_cons_mk (Below.trod laidOut (by kernel_rfl) (of_decide_eq_true (by kernel_rfl)) k2 bel lt2) (trodAll_cons_mk (shut_int Try.underlying3 w3) trodAll_mk0)))), rfl, bel.frame _, fun h => by cases h⟩
theorem over : Rows.internDoesRow.holds Try.pinned (OpenSpec.ofChange Rows.internDoesSpec) :=
  OpenClaim.holds_of_wide 5 Try.f5 rfl rfl rfl rfl rfl rfl rfl ⟨rfl, rfl, rfl, rfl, rfl⟩ rfl rfl rfl rfl rfl (by kernel_rfl) Try.func5 (by kernel_rfl)
    (of_decide_eq_true (by kernel_rfl)) (by unfold Func.isWrapper; first | (rw [if_pos (by decide +kernel)]; kernel_rfl) | (rw [if_neg (by decide +kernel)]; exact ⟨rfl, rfl⟩))
    (fun os started H enc _ => lifted os started H enc)
theorem proved : Rows.InternDoesSaid := over
end Go.Proofs.Ytfoagjdcgipcaaa.internDoes
namespace Go.Proofs.Ytfoagjdcgipcaaa
/-- The row, under a short name, for the claim. -/
theorem internDoes_holds : Rows.InternDoesSaid := internDoes.proved
end Go.Proofs.Ytfoagjdcgipcaaa
