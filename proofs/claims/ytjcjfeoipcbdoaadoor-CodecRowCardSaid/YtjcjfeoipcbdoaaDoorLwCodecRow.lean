/- The given statement of CodecRow, tied: the words of labels, one behind the other, are read one by one, each as it. CONDITIONS: for every input; the row lists three tables and two errors of the library, which the card ties to the program's text. -/
import Derived.Test.YtjcjfeoipcbdoaaDoorRows
import Derived.Test.YtjcjfeoipcbdoaaDoorCards
import Derived.Test.YtjcjfeoipcbdoaaDoorTie
import Derived.Test.YtjcjfeoipcbdoaaDoorOp
import Derived.Test.YtjcjfeoipcbdoaaDoorPuCodecRow
import Derived.Test.YtjcjfeoipcbdoaaDoorEv
import Derived.WalkKit
import Derived.ProofKit
import Derived.OpenShut
import Derived.ShutString
import Derived.ChangeOld
import Derived.Below
import Derived.SizedLaws
import Derived.Carry
import Derived.LaidMore
import Derived.SevenTiedAt
import Derived.Lib.LaidTab
import Derived.Stop.LaidErr
import Derived.Stop.Joined
namespace Go.Proofs.YtjcjfeoipcbdoaaDoor.codecRow
open Go.ChangeShapes Go.WideShapes Go.ChangeAt Go.RowKit Go.Proofs.YtjcjfeoipcbdoaaDoor.Op Go.Proofs.YtjcjfeoipcbdoaaDoorW.PrintWords 
open Go.ChangeMaps (open_string shut_string)
set_option linter.unusedVariables false
theorem opens47 : Opens Tryd.prog 47 X.k47 (fun x => (Lit.int .u64 x.f0).wf = true ∧ (Lit.int .i64 x.f1).wf = true) :=
  Opens.struct Tryd.underlying47 (by kernel_rfl) (OpensF.cons rfl rfl (by kernel_rfl) (Opens.int Tryd.underlying45) rfl (OpensF.last rfl rfl (by kernel_rfl) (Opens.int Tryd.underlying3))) (fun x : X.S47 => (x.f0, x.f1)) (fun a => ⟨a.1, a.2⟩) (fun _ => rfl)
theorem opensL : Opens Tryd.prog 23 (Kd.slice 47 X.k47) (fun l => ∀ x ∈ l, (Lit.int .u64 x.f0).wf = true ∧ (Lit.int .i64 x.f1).wf = true) := Opens.slice Tryd.underlying23 (by kernel_rfl) opens47
theorem opensW : Opens Tryd.prog 33 (Kd.slice 45 (Kd.int .u64)) (fun l => ∀ x ∈ l, (Lit.int .u64 x).wf = true) := Opens.slice Tryd.underlying33 (by kernel_rfl) (Opens.int Tryd.underlying45)
theorem wfl {l : List X.S47} (h : ∀ x ∈ l, (Lit.int .u64 x.f0).wf = true ∧ (Lit.int .i64 x.f1).wf = true) : X.wfL l := fun i hi => by
  have := X.u64_bd (h _ (List.getElem_mem hi)).1
  omega
theorem opensLL : Opens Tryd.prog 43 (Kd.slice 23 (Kd.slice 47 X.k47)) (fun l => ∀ x ∈ l, ∀ y ∈ x, (Lit.int .u64 y.f0).wf = true ∧ (Lit.int .i64 y.f1).wf = true) := Opens.slice Tryd.underlying43 (by kernel_rfl) opensL
theorem okb {l : List Int} (h : ∀ x ∈ l, (Lit.int .u64 x).wf = true) : X.okB l = true := List.all_eq_true.2 fun x hx => by
  have := X.u64_bd (h x hx)
  simp; omega
theorem own : ownKnob Tryd.prog.godebug = none := by kernel_rfl
theorem laidOut : laidOutB Tryd.prog = true := by kernel_rfl
/-- The heap that the program's own start leaves meets the row's condition. -/
theorem door_met (os : Os) (args : Array Value) : laidMetH Tryd.prog Rows.codecRowRow.laid ((World.doorLaid Tryd.prog 64 os).forCall (fun _ _ => 0) ⟨#[], args, []⟩).memory :=
  laidMetH_of_parts3 (fuel := 8) (laidMet_of_run' 8 (by kernel_rfl) (by kernel_rfl)) (by kernel_rfl) (by kernel_rfl)
set_option maxRecDepth 100000 in
theorem lifted (os : Os) (started : os.Started) (H : Type) (enc : TypeId × Value → H) :
    ReturnsInHanded {} Tryd.checked os 6 .any (fun w args => (Rows.codecRowSpec.pre enc Tryd.prog Tryd.f6 [] false w args ∧ laidMetH Tryd.prog Rows.codecRowRow.laid w) ∧ sizedMet enc Tryd.prog Tryd.f6 (OpenSpec.ofChange Rows.codecRowSpec) false w args)
      (Rows.codecRowSpec.post enc Tryd.prog Tryd.f6 false true false false) := by
  refine X.handed_and_shaped (C := Tryd.checked) (X := fun w _ => laidMetH Tryd.prog Rows.codecRowRow.laid w) (fun _ _ _ hh h => h.of_heap hh) own started (by kernel_rfl) Tryd.func6
    (ChangeSpec.witness_shaped (enc := enc) (C := Tryd.checked) (os := os) (X := fun w _ => laidMetH Tryd.prog Rows.codecRowRow.laid w) false (World.doorLaid Tryd.prog 64 os) #[.slice none 0 0] 8 rfl (World.shaped_of_RefB (by kernel_rfl) (by kernel_rfl)) (by kernel_rfl) (by kernel_rfl) (by kernel_rfl) (door_met os _)) ?_
  intro W base args ds gs before hval0 hW hsh hL
  have hval : ∀ (j : Nat) t v, Tryd.f6.params[j]? = some t → args[j]? = some v → Value.okWide Tryd.prog W .any base t v := hval0
  have hW' := hW
  obtain ⟨p, q, hA0, hV, rfl, hfz, hnd⟩ := hW
  have hA : DataW.TrodAll enc Tryd.prog W 0 (fun _ => true) true Tryd.f6.params.toList args.toList ds p := hA0
  rw [Tryd.params6] at hA hval
  obtain ⟨v0, vs0, d0, ds0, p0, q0, hargs, rfl, rfl, h0, r0⟩ := trodAll_cons hA
  obtain ⟨rfl, rfl, rfl⟩ := trodAll_nil r0
  obtain rfl : args = #[v0] := by cases args; simp_all
  obtain ⟨rfl, rfl⟩ := trodVars_none hV
  obtain ⟨A0, n0, c0, rfl⟩ := okWide_slice Tryd.underlying43 (hval 0 43 v0 rfl rfl)
  have k0 := h0
  have lt0 : ∀ x ∈ p0, x.block < W.heap.size := by
    obtain ⟨m, hm⟩ := k0
    exact DataW.trod_lt m _ _ _ hm
  obtain ⟨l0, rfl, hc0, hr0, hg0⟩ := Opens.arg opensLL h0
  clear hA0 hval0
  refine ((fun hk => X.curtilagelaw04_CodecRow.calls hk.choose A0 c0 l0 true W (X.env_of_laid hL hsh) hr0 hc0 hk.choose_spec) (X.CodecRow_val l0 (fun x hx => wfl (hg0 x hx)))).mono fun e W' ⟨he, bel⟩ => ?_
  subst he
  exact ⟨_, rfl, _, _, _, [], _, [], hW', trodAll_mk1 (shut_bool Tryd.underlying4 _), (trodAll_cons_mk (Below.trod laidOut (by kernel_rfl) (of_decide_eq_true (by kernel_rfl)) k0 bel lt0) trodAll_mk0), rfl, bel.frame _, fun h => by cases h⟩
theorem over : Rows.codecRowRow.holds Tryd.pinned (OpenSpec.ofChange Rows.codecRowSpec) :=
  OpenClaim.holds_of_wide 6 Tryd.f6 rfl rfl rfl rfl rfl rfl rfl ⟨rfl, rfl, rfl, rfl, rfl⟩ rfl rfl rfl rfl rfl (by kernel_rfl) Tryd.func6 (by kernel_rfl)
    (of_decide_eq_true (by kernel_rfl)) (by unfold Func.isWrapper; first | (rw [if_pos (by decide +kernel)]; kernel_rfl) | (rw [if_neg (by decide +kernel)]; exact ⟨rfl, rfl⟩))
    (fun os started H enc _ => lifted os started H enc)
theorem proved : Rows.CodecRowSaid := over
theorem card : Rows.CodecRowCardSaid :=
  Claim7.holds_tied_plain_at .later [] [.data, .data, .data, .sentinel, .sentinel] true (true, "287f24b0dd8ec3233c097da19c659e55a6cfa0f6b6b4b1e3361edbbb6554787d") true
    proved (fun _ h => by cases h) (by kernel_rfl) (fun _ h => by cases h) codecRow_row_tie rfl ⟨rfl, rfl⟩ (by kernel_rfl) rfl
    (fun f fn hf hfn => by
      obtain rfl : f = 6 := Option.some.inj ((show Tryd.prog.funcNamed "curtilage/curtilagelaw04.CodecRow" = some 6 by kernel_rfl).symm.trans hf) |>.symm
      obtain rfl : fn = Tryd.f6 := (Option.some.inj (Tryd.func6.symm.trans hfn)).symm
      exact ⟨by kernel_rfl, fun j t ht => by
        rw [Tryd.params6] at ht
        have hm : t ∈ [43] := by have := Array.mem_of_getElem? ht; first | (simpa using this) | (simp at this ⊢; omega) | (simp at this ⊢; rcases this with h | h | h | h <;> simp [h])
        have hall : ([43].all fun u => !Tryd.prog.wantsStandIn u) = true := by kernel_rfl
        exact (show Tryd.prog.wantsStandIn t = false by simpa using List.all_eq_true.1 hall t hm)⟩)
    (by kernel_rfl)
end Go.Proofs.YtjcjfeoipcbdoaaDoor.codecRow
namespace Go.Proofs.YtjcjfeoipcbdoaaDoor
/-- The tied card, under a short name, for the claim. -/
theorem codecRow_holds : Rows.CodecRowCardSaid := codecRow.card
end Go.Proofs.YtjcjfeoipcbdoaaDoor
