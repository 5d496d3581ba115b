/- The given statement of AsmBack, tied: lines as a text are read as they are, and what is read is written so. CONDITIONS: for every input; the row lists tables and errors of the library, which the card ties to the program's text. -/
import Derived.Test.YtbelnkdbghggmaaGreatDoorRows
import Derived.Test.YtbelnkdbghggmaaGreatDoorCards
import Derived.Test.YtbelnkdbghggmaaGreatDoorTie
import Derived.Test.YtbelnkdbghggmaaGreatDoorOp
import Derived.Test.YtbelnkdbghggmaaGreatDoorMg10
import Derived.Test.YtbelnkdbghggmaaGreatDoorEv
import Derived.WalkKit
import Derived.ProofKit
import Derived.OpenShut
import Derived.ShutString
import Derived.ChangeOld
import Derived.Below
import Derived.SizedLaws
import Derived.Carry
import Derived.LaidMore
import Derived.Lay
import Derived.SevenTiedAt
import Derived.Lib.LaidTab
import Derived.Stop.LaidErr
import Derived.Stop.Joined
namespace Go.Proofs.YtbelnkdbghggmaaGreatDoor.asmBack
open Go.ChangeShapes Go.WideShapes Go.ChangeAt Go.RowKit Go.Proofs.YtbelnkdbghggmaaGreatDoor.Op Go.Proofs.YtbelnkdbghggmaaGreatDoorW.PrintWords
open Go.ChangeMaps (open_string shut_string)
set_option linter.unusedVariables false
theorem opens38 : Opens Tryz.prog 38 X.k38 (fun x => (Lit.int .i64 x.f0).wf = true ∧ (Lit.int .i64 x.f1).wf = true ∧ (Lit.int .i64 x.f2).wf = true ∧ (Lit.int .i64 x.f3).wf = true ∧ (Lit.int .i32 x.f4).wf = true) :=
  Opens.struct Tryz.underlying38 (by kernel_rfl) (OpensF.cons rfl rfl (by kernel_rfl) (Opens.int Tryz.underlying3) rfl (OpensF.cons rfl rfl (by kernel_rfl) (Opens.int Tryz.underlying3) rfl (OpensF.cons rfl rfl (by kernel_rfl) (Opens.int Tryz.underlying3) rfl (OpensF.cons rfl rfl (by kernel_rfl) (Opens.int Tryz.underlying3) rfl (OpensF.last rfl rfl (by kernel_rfl) (Opens.int Tryz.underlying21)))))) (fun x : X.S38 => (x.f0, x.f1, x.f2, x.f3, x.f4)) (fun a => ⟨a.1, a.2.1, a.2.2.1, a.2.2.2.1, a.2.2.2.2⟩) (fun _ => rfl)
theorem opens40 : Opens Tryz.prog 40 X.k40 (fun x => x.f0.size ≤ 9223372036854775807 ∧ ((Lit.int .i64 x.f1.f0).wf = true ∧ (Lit.int .i64 x.f1.f1).wf = true ∧ (Lit.int .i64 x.f1.f2).wf = true ∧ (Lit.int .i64 x.f1.f3).wf = true ∧ (Lit.int .i32 x.f1.f4).wf = true) ∧ x.f2.size ≤ 9223372036854775807) :=
  Opens.struct Tryz.underlying40 (by kernel_rfl) (OpensF.cons rfl rfl (by kernel_rfl) (Opens.string Tryz.underlying9) rfl (OpensF.cons rfl rfl (by kernel_rfl) opens38 rfl (OpensF.last rfl rfl (by kernel_rfl) (Opens.string Tryz.underlying9)))) (fun x : X.S40 => (x.f0, x.f1, x.f2)) (fun a => ⟨a.1, a.2.1, a.2.2⟩) (fun _ => rfl)
theorem opensL : Opens Tryz.prog 23 (Kd.slice 40 X.k40) (fun l => ∀ x ∈ l, X.wfX x) :=
  (Opens.slice Tryz.underlying23 (by kernel_rfl) opens40).mono fun l h x hx => by
    obtain ⟨h0, ⟨_, _, _, _, h5⟩, h2⟩ := h x hx
    exact ⟨X.i32_bd h5, h0, h2⟩
theorem own : ownKnob Tryz.prog.godebug = none := by kernel_rfl
theorem laidOut : laidOutB Tryz.prog = true := by kernel_rfl
/-- The heap that the program's own start leaves meets the row's condition. -/
theorem door_met (os : Os) (args : Array Value) : laidMetH Tryz.prog Rows.asmBackRow.laid ((World.laidAll Tryz.prog os Rows.asmBackRow.laid).forCall (fun _ _ => 0) ⟨#[], args, []⟩).memory := by
  rw [MakeChecks.laidMetH_plain _ _ _ (by kernel_rfl)]
  exact laidMet_laidAll _ (by kernel_rfl) (by kernel_rfl)
set_option maxRecDepth 100000 in
theorem lifted (os : Os) (started : os.Started) (H : Type) (enc : TypeId × Value → H) :
    ReturnsInHanded {} Tryz.checked os 4 .any (fun w args => (Rows.asmBackSpec.pre enc Tryz.prog Tryz.f4 [] false w args ∧ laidMetH Tryz.prog Rows.asmBackRow.laid w) ∧ sizedMet enc Tryz.prog Tryz.f4 (OpenSpec.ofChange Rows.asmBackSpec) false w args)
      (Rows.asmBackSpec.post enc Tryz.prog Tryz.f4 false true false false) := by
  refine X.handed_and_shaped (C := Tryz.checked) (X := fun w _ => laidMetH Tryz.prog Rows.asmBackRow.laid w) (fun _ _ _ hh h => h.of_heap hh) own started (by kernel_rfl) Tryz.func4
    (ChangeSpec.witness_shaped (enc := enc) (C := Tryz.checked) (os := os) (X := fun w _ => laidMetH Tryz.prog Rows.asmBackRow.laid w) false (World.laidAll Tryz.prog os Rows.asmBackRow.laid) #[.slice none 0 0, .string ByteArray.empty] 8 (World.laidAll_os _ _ _) (World.shaped_of_ZipB (by kernel_rfl) (by kernel_rfl)) (by kernel_rfl) (by kernel_rfl) (by kernel_rfl) (door_met os _)) ?_
  intro W base args ds gs before hval0 hW hsh hL
  have hval : ∀ (j : Nat) t v, Tryz.f4.params[j]? = some t → args[j]? = some v → Value.okWide Tryz.prog W .any base t v := hval0
  have hW' := hW
  obtain ⟨p, q, hA0, hV, rfl, hfz, hnd⟩ := hW
  have hA : DataW.TrodAll enc Tryz.prog W 0 (fun _ => true) true Tryz.f4.params.toList args.toList ds p := hA0
  rw [Tryz.params4] at hA hval
  obtain ⟨v0, vs0, d0, ds0, p0, q0, hargs, rfl, rfl, h0, r0⟩ := trodAll_cons hA
  obtain ⟨v1, vs1, d1, ds1, p1, q1, rfl, rfl, rfl, h1, r1⟩ := trodAll_cons r0
  obtain ⟨rfl, rfl, rfl⟩ := trodAll_nil r1
  obtain rfl : args = #[v0, v1] := by cases args; simp_all
  obtain ⟨rfl, rfl⟩ := trodVars_none hV
  obtain ⟨A0, n0, c0, rfl⟩ := okWide_slice Tryz.underlying23 (hval 0 23 v0 rfl rfl)
  have k0 := h0
  have lt0 : ∀ x ∈ p0, x.block < W.heap.size := by
    obtain ⟨m, hm⟩ := k0
    exact DataW.trod_lt m _ _ _ hm
  obtain ⟨l0, rfl, hc0, hr0, hg0⟩ := Opens.arg opensL h0
  obtain ⟨a1, rfl, rfl, rfl, w1⟩ := open_string Tryz.underlying9 (hval 1 9 v1 rfl rfl) h1
  clear hA0 hval0
  refine ((fun hk => X.curtilagelaw10_AsmBack.calls hk.choose A0 c0 l0 a1 W (X.env_of_laid hL hsh) hr0 hc0 hk.choose_spec) (X.AsmBack_val l0 a1 hg0)).mono fun e W' ⟨he, bel⟩ => ?_
  subst he
  exact ⟨_, rfl, _, _, _, [], _, [], hW', trodAll_mk1 (shut_bool Tryz.underlying4 _), (trodAll_cons_mk (Below.trod laidOut (by kernel_rfl) (of_decide_eq_true (by kernel_rfl)) k0 bel lt0) (trodAll_cons_mk (shut_string Tryz.underlying9 w1) trodAll_mk0)), rfl, bel.frame _, fun h => by cases h⟩
theorem over : Rows.asmBackRow.holds Tryz.pinned (OpenSpec.ofChange Rows.asmBackSpec) :=
  OpenClaim.holds_of_wide 4 Tryz.f4 rfl rfl rfl rfl rfl rfl rfl ⟨rfl, rfl, rfl, rfl, rfl⟩ rfl rfl rfl rfl rfl (by kernel_rfl) Tryz.func4 (by kernel_rfl)
    (of_decide_eq_true (by kernel_rfl)) (by unfold Func.isWrapper; first | (rw [if_pos (by decide +kernel)]; kernel_rfl) | (rw [if_neg (by decide +kernel)]; exact ⟨rfl, rfl⟩))
    (fun os started H enc _ => lifted os started H enc)
theorem proved : Rows.AsmBackSaid := over
theorem card : Rows.AsmBackCardSaid :=
  Claim7.holds_tied_plain_at .later [] [.data, .data, .data, .data, .sentinel, .sentinel, .pinned] true (true, "7ddabc686d80f0532d489fb945c6e76c3c376e381579fabfdc194c1042475dbb") true
    proved (fun _ h => by cases h) (by kernel_rfl) (fun _ h => by cases h) asmBack_row_tie rfl ⟨rfl, rfl⟩ (by kernel_rfl) rfl
    (fun f fn hf hfn => by
      obtain rfl : f = 4 := Option.some.inj ((show Tryz.prog.funcNamed "curtilage/curtilagelaw10.AsmBack" = some 4 by kernel_rfl).symm.trans hf) |>.symm
      obtain rfl : fn = Tryz.f4 := (Option.some.inj (Tryz.func4.symm.trans hfn)).symm
      exact ⟨by kernel_rfl, fun j t ht => by
        rw [Tryz.params4] at ht
        have hm : t ∈ [23, 9] := by have := Array.mem_of_getElem? ht; first | (simpa using this) | (simp at this ⊢; omega) | (simp at this ⊢; rcases this with h | h | h | h <;> simp [h])
        have hall : ([23, 9].all fun u => !Tryz.prog.wantsStandIn u) = true := by kernel_rfl
        exact (show Tryz.prog.wantsStandIn t = false by simpa using List.all_eq_true.1 hall t hm)⟩)
    (by kernel_rfl)
end Go.Proofs.YtbelnkdbghggmaaGreatDoor.asmBack
namespace Go.Proofs.YtbelnkdbghggmaaGreatDoor
/-- The tied card, under a short name, for the claim. -/
theorem asmBack_holds : Rows.AsmBackCardSaid := asmBack.card
end Go.Proofs.YtbelnkdbghggmaaGreatDoor
