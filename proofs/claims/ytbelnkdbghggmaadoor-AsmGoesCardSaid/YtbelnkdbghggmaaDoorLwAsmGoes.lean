/- The given statement of AsmGoes, tied: each word of a program is its line's, and a number that goes to a mark comes to the mark's place. CONDITIONS: for every input; the row lists tables and errors of the library, which the card ties to the program's text. -/
import Derived.Test.YtbelnkdbghggmaaDoorRows
import Derived.Test.YtbelnkdbghggmaaDoorCards
import Derived.Test.YtbelnkdbghggmaaDoorTie
import Derived.Test.YtbelnkdbghggmaaDoorOp
import Derived.Test.YtbelnkdbghggmaaDoorPuAsmGoes
import Derived.Test.YtbelnkdbghggmaaDoorEv
import Derived.WalkKit
import Derived.ProofKit
import Derived.OpenShut
import Derived.ShutString
import Derived.ChangeOld
import Derived.Below
import Derived.SizedLaws
import Derived.Carry
import Derived.LaidMore
import Derived.Lay
import Derived.SevenTiedAt
import Derived.Lib.LaidTab
import Derived.Stop.LaidErr
import Derived.Stop.Joined
namespace Go.Proofs.YtbelnkdbghggmaaDoor.asmGoes
open Go.ChangeShapes Go.WideShapes Go.ChangeAt Go.RowKit Go.Proofs.YtbelnkdbghggmaaDoor.Op Go.Proofs.YtbelnkdbghggmaaDoorW.PrintWords
open Go.ChangeMaps (open_string shut_string)
set_option linter.unusedVariables false
theorem opens26 : Opens Tryd.prog 26 X.k26 (fun x => (Lit.int .i64 x.f0).wf = true ∧ (Lit.int .i64 x.f1).wf = true ∧ (Lit.int .i64 x.f2).wf = true ∧ (Lit.int .i64 x.f3).wf = true ∧ (Lit.int .i32 x.f4).wf = true) :=
  Opens.struct Tryd.underlying26 (by kernel_rfl) (OpensF.cons rfl rfl (by kernel_rfl) (Opens.int Tryd.underlying3) rfl (OpensF.cons rfl rfl (by kernel_rfl) (Opens.int Tryd.underlying3) rfl (OpensF.cons rfl rfl (by kernel_rfl) (Opens.int Tryd.underlying3) rfl (OpensF.cons rfl rfl (by kernel_rfl) (Opens.int Tryd.underlying3) rfl (OpensF.last rfl rfl (by kernel_rfl) (Opens.int Tryd.underlying21)))))) (fun x : X.S26 => (x.f0, x.f1, x.f2, x.f3, x.f4)) (fun a => ⟨a.1, a.2.1, a.2.2.1, a.2.2.2.1, a.2.2.2.2⟩) (fun _ => rfl)
theorem opens28 : Opens Tryd.prog 28 X.k28 (fun x => x.f0.size ≤ 9223372036854775807 ∧ ((Lit.int .i64 x.f1.f0).wf = true ∧ (Lit.int .i64 x.f1.f1).wf = true ∧ (Lit.int .i64 x.f1.f2).wf = true ∧ (Lit.int .i64 x.f1.f3).wf = true ∧ (Lit.int .i32 x.f1.f4).wf = true) ∧ x.f2.size ≤ 9223372036854775807) :=
  Opens.struct Tryd.underlying28 (by kernel_rfl) (OpensF.cons rfl rfl (by kernel_rfl) (Opens.string Tryd.underlying9) rfl (OpensF.cons rfl rfl (by kernel_rfl) opens26 rfl (OpensF.last rfl rfl (by kernel_rfl) (Opens.string Tryd.underlying9)))) (fun x : X.S28 => (x.f0, x.f1, x.f2)) (fun a => ⟨a.1, a.2.1, a.2.2⟩) (fun _ => rfl)
theorem opensL : Opens Tryd.prog 22 (Kd.slice 28 X.k28) (fun l => ∀ x ∈ l, X.wfX x) :=
  (Opens.slice Tryd.underlying22 (by kernel_rfl) opens28).mono fun l h x hx => by
    obtain ⟨h0, ⟨_, _, _, _, h5⟩, h2⟩ := h x hx
    exact ⟨X.i32_bd h5, h0, h2⟩
theorem own : ownKnob Tryd.prog.godebug = none := by kernel_rfl
theorem laidOut : laidOutB Tryd.prog = true := by kernel_rfl
/-- The heap that the program's own start leaves meets the row's condition. -/
theorem door_met (os : Os) (args : Array Value) : laidMetH Tryd.prog Rows.asmGoesRow.laid ((World.laidAll Tryd.prog os Rows.asmGoesRow.laid).forCall (fun _ _ => 0) ⟨#[], args, []⟩).memory := by
  rw [MakeChecks.laidMetH_plain _ _ _ (by kernel_rfl)]
  exact laidMet_laidAll _ (by kernel_rfl) (by kernel_rfl)
set_option maxRecDepth 100000 in
theorem lifted (os : Os) (started : os.Started) (H : Type) (enc : TypeId × Value → H) :
    ReturnsInHanded {} Tryd.checked os 4 .any (fun w args => (Rows.asmGoesSpec.pre enc Tryd.prog Tryd.f4 [] false w args ∧ laidMetH Tryd.prog Rows.asmGoesRow.laid w) ∧ sizedMet enc Tryd.prog Tryd.f4 (OpenSpec.ofChange Rows.asmGoesSpec) false w args)
      (Rows.asmGoesSpec.post enc Tryd.prog Tryd.f4 false true false false) := by
  refine X.handed_and_shaped (C := Tryd.checked) (X := fun w _ => laidMetH Tryd.prog Rows.asmGoesRow.laid w) (fun _ _ _ hh h => h.of_heap hh) own started (by kernel_rfl) Tryd.func4
    (ChangeSpec.witness_shaped (enc := enc) (C := Tryd.checked) (os := os) (X := fun w _ => laidMetH Tryd.prog Rows.asmGoesRow.laid w) false (World.laidAll Tryd.prog os Rows.asmGoesRow.laid) #[.slice none 0 0] 8 (World.laidAll_os _ _ _) (World.shaped_of_ZipB (by kernel_rfl) (by kernel_rfl)) (by kernel_rfl) (by kernel_rfl) (by kernel_rfl) (door_met os _)) ?_
  intro W base args ds gs before hval0 hW hsh hL
  have hval : ∀ (j : Nat) t v, Tryd.f4.params[j]? = some t → args[j]? = some v → Value.okWide Tryd.prog W .any base t v := hval0
  have hW' := hW
  obtain ⟨p, q, hA0, hV, rfl, hfz, hnd⟩ := hW
  have hA : DataW.TrodAll enc Tryd.prog W 0 (fun _ => true) true Tryd.f4.params.toList args.toList ds p := hA0
  rw [Tryd.params4] at hA hval
  obtain ⟨v0, vs0, d0, ds0, p0, q0, hargs, rfl, rfl, h0, r0⟩ := trodAll_cons hA
  obtain ⟨rfl, rfl, rfl⟩ := trodAll_nil r0
  obtain rfl : args = #[v0] := by cases args; simp_all
  obtain ⟨rfl, rfl⟩ := trodVars_none hV
  obtain ⟨A0, n0, c0, rfl⟩ := okWide_slice Tryd.underlying22 (hval 0 22 v0 rfl rfl)
  have k0 := h0
  have lt0 : ∀ x ∈ p0, x.block < W.heap.size := by
    obtain ⟨m, hm⟩ := k0
    exact DataW.trod_lt m _ _ _ hm
  obtain ⟨l0, rfl, hc0, hr0, hg0⟩ := Opens.arg opensL h0
  clear hA0 hval0
  refine ((fun hk => X.curtilagelaw10_AsmGoes.calls hk.choose A0 c0 l0 true W (X.env_of_laid hL hsh) hr0 hc0 hk.choose_spec) (X.AsmGoes_val l0 hg0)).mono fun e W' ⟨he, bel⟩ => ?_
  subst he
  exact ⟨_, rfl, _, _, _, [], _, [], hW', trodAll_mk1 (shut_bool Tryd.underlying4 _), (trodAll_cons_mk (Below.trod laidOut (by kernel_rfl) (of_decide_eq_true (by kernel_rfl)) k0 bel lt0) trodAll_mk0), rfl, bel.frame _, fun h => by cases h⟩
theorem over : Rows.asmGoesRow.holds Tryd.pinned (OpenSpec.ofChange Rows.asmGoesSpec) :=
  OpenClaim.holds_of_wide 4 Tryd.f4 rfl rfl rfl rfl rfl rfl rfl ⟨rfl, rfl, rfl, rfl, rfl⟩ rfl rfl rfl rfl rfl (by kernel_rfl) Tryd.func4 (by kernel_rfl)
    (of_decide_eq_true (by kernel_rfl)) (by unfold Func.isWrapper; first | (rw [if_pos (by decide +kernel)]; kernel_rfl) | (rw [if_neg (by decide +kernel)]; exact ⟨rfl, rfl⟩))
    (fun os started H enc _ => lifted os started H enc)
theorem proved : Rows.AsmGoesSaid := over
theorem card : Rows.AsmGoesCardSaid :=
  Claim7.holds_tied_plain_at .later [] [.data, .data, .data, .data, .sentinel, .sentinel, .pinned] true (true, "8ecef0ed80c52c444762c93cf298b2e9f74961713d5b11ee0717e1310e68dae2") true
    proved (fun _ h => by cases h) (by kernel_rfl) (fun _ h => by cases h) asmGoes_row_tie rfl ⟨rfl, rfl⟩ (by kernel_rfl) rfl
    (fun f fn hf hfn => by
      obtain rfl : f = 4 := Option.some.inj ((show Tryd.prog.funcNamed "curtilage/curtilagelaw10.AsmGoes" = some 4 by kernel_rfl).symm.trans hf) |>.symm
      obtain rfl : fn = Tryd.f4 := (Option.some.inj (Tryd.func4.symm.trans hfn)).symm
      exact ⟨by kernel_rfl, fun j t ht => by
        rw [Tryd.params4] at ht
        have hm : t ∈ [22] := by have := Array.mem_of_getElem? ht; first | (simpa using this) | (simp at this ⊢; omega) | (simp at this ⊢; rcases this with h | h | h | h <;> simp [h])
        have hall : ([22].all fun u => !Tryd.prog.wantsStandIn u) = true := by kernel_rfl
        exact (show Tryd.prog.wantsStandIn t = false by simpa using List.all_eq_true.1 hall t hm)⟩)
    (by kernel_rfl)
end Go.Proofs.YtbelnkdbghggmaaDoor.asmGoes
namespace Go.Proofs.YtbelnkdbghggmaaDoor
/-- The tied card, under a short name, for the claim. -/
theorem asmGoes_holds : Rows.AsmGoesCardSaid := asmGoes.card
end Go.Proofs.YtbelnkdbghggmaaDoor
