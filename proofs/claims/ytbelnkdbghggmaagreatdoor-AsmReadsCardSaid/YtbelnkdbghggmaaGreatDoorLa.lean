/- Contracts of the library's functions that a line's reader calls, in the printed form. -/
import Derived.Test.YtbelnkdbghggmaaGreatDoorMr4
import Derived.Lib.ParseIntBTie
import Derived.Lib.AtoiErrMem
namespace Go.Proofs.YtbelnkdbghggmaaGreatDoor.X
open Go.RowKit Go.Proofs.YtbelnkdbghggmaaGreatDoorW.PrintWords Go.Proofs.YtbelnkdbghggmaaGreatDoorW.PrintLast
set_option linter.unusedVariables false
set_option linter.unusedSimpArgs false
def cutB (a b : ByteArray) : ByteArray × ByteArray × Bool := (⟨(Lib.cut a.data.toList b.data.toList).1.toArray⟩, ⟨(Lib.cut a.data.toList b.data.toList).2.1.toArray⟩, (Lib.cut a.data.toList b.data.toList).2.2)
def strings_Cut.f (a0 a1 : ByteArray) : Option (ByteArray × ByteArray × Bool) := if a0.size < 4294967281 then some (cutB a0 a1) else none
theorem strings_Cut.calls (a0 a1 : ByteArray) (r1 r2 : ByteArray) (r3 : Bool) (w : World) (ht : Env w) (h : strings_Cut.f a0 a1 = some (r1, r2, r3)) :
    Calls Tryz.prog 14 #[.string a0, .string a1] w fun e w' => e = .returned (.tuple #[.string r1, .string r2, .bool r3]) ∧ Below w.heap.size w w' := by
  unfold strings_Cut.f at h
  split at h
  · rename_i hs
    obtain ⟨m, hm⟩ := ht.mlen
    simp only [cutB, Option.some.injEq, Prod.mk.injEq] at h
    obtain ⟨rfl, rfl, rfl⟩ := h
    exact (Tryz.strings_Cut a0 a1 m w hs hm).mono fun e w' ⟨he, n, hw⟩ => ⟨he, by rw [hw]; exact pw_below_drewN (Below.refl _ _) n⟩
  · cases h
def strings_CutPrefix.f (a0 a1 : ByteArray) : Option (ByteArray × Bool) := some (⟨(Lib.trimPrefix a0.data.toList a1.data.toList).toArray⟩, Lib.hasPrefix a0.data.toList a1.data.toList)
theorem strings_CutPrefix.calls (a0 a1 : ByteArray) (r1 : ByteArray) (r2 : Bool) (w : World) (h : strings_CutPrefix.f a0 a1 = some (r1, r2)) :
    Calls Tryz.prog 78 #[.string a0, .string a1] w fun e w' => e = .returned (.tuple #[.string r1, .bool r2]) ∧ Below w.heap.size w w' := by
  simp only [strings_CutPrefix.f, Option.some.injEq, Prod.mk.injEq] at h
  obtain ⟨rfl, rfl⟩ := h
  exact (Tryz.strings_CutPrefix a0 a1 w).mono fun e w' ⟨he, hw⟩ => ⟨he, by rw [hw]; exact Below.refl _ _⟩
def strings_CutSuffix.f (a0 a1 : ByteArray) : Option (ByteArray × Bool) := if a0.size ≤ 9223372036854775807 then some (⟨(Lib.trimSuffix a0.data.toList a1.data.toList).toArray⟩, Lib.hasSuffix a0.data.toList a1.data.toList) else none
theorem strings_CutSuffix.calls (a0 a1 : ByteArray) (r1 : ByteArray) (r2 : Bool) (w : World) (h : strings_CutSuffix.f a0 a1 = some (r1, r2)) :
    Calls Tryz.prog 27 #[.string a0, .string a1] w fun e w' => e = .returned (.tuple #[.string r1, .bool r2]) ∧ Below w.heap.size w w' := by
  unfold strings_CutSuffix.f at h
  split at h
  · rename_i hs
    simp only [Option.some.injEq, Prod.mk.injEq] at h
    obtain ⟨rfl, rfl⟩ := h
    exact (Tryz.strings_CutSuffix a0 a1 w hs).mono fun e w' ⟨he, hw⟩ => ⟨he, by rw [hw]; exact Below.refl _ _⟩
  · cases h
def strings_TrimSuffix.f (a0 a1 : ByteArray) : Option ByteArray := if a0.size ≤ 9223372036854775807 then some ⟨(Lib.trimSuffix a0.data.toList a1.data.toList).toArray⟩ else none
theorem strings_TrimSuffix.calls (a0 a1 : ByteArray) (r : ByteArray) (w : World) (h : strings_TrimSuffix.f a0 a1 = some r) :
    Calls Tryz.prog 44 #[.string a0, .string a1] w fun e w' => e = .returned (.string r) ∧ Below w.heap.size w w' := by
  unfold strings_TrimSuffix.f at h
  split at h
  · rename_i hs
    obtain rfl := Option.some.inj h
    exact (Tryz.strings_TrimSuffix a0 a1 w hs).mono fun e w' ⟨he, hw⟩ => ⟨he, by rw [hw]; exact Below.refl _ _⟩
  · cases h
def strconv_Itoa.f (a0 : Int) : Option ByteArray := if -9223372036854775808 ≤ a0 ∧ a0 ≤ 9223372036854775807 then some (itoaB a0) else none
theorem strconv_Itoa.calls (a0 : Int) (r : ByteArray) (w : World) (ht : Env w) (h : strconv_Itoa.f a0 = some r) :
    Calls Tryz.prog 43 #[.int .i64 a0] w fun e w' => e = .returned (.string r) ∧ Below w.heap.size w w' := by
  unfold strconv_Itoa.f at h
  split at h
  · rename_i hs
    obtain rfl := Option.some.inj h
    exact Itoa_any a0 hs.1 hs.2 w ht.tab
  · cases h
def splitF (s sep : ByteArray) : List ByteArray := Lib.splitB sep 0 (Lib.countB s sep) s
def strings_Split.f (a0 a1 : ByteArray) : Option (List ByteArray) := if a0.size < 4294967281 ∧ 1 ≤ a1.size then some (splitF a0 a1) else none
theorem strings_Split.calls (a0 a1 : ByteArray) (r : List ByteArray) (w : World) (ht : Env w) (h : strings_Split.f a0 a1 = some r) :
    Calls Tryz.prog 29 #[.string a0, .string a1] w fun e w' => ∃ v0_ : Value, e = .returned (v0_) ∧ Kd.R Kd.string 9 w' w.heap.size (fun _ => True) v0_ r ∧ Below w.heap.size w w' := by
  unfold strings_Split.f at h
  split at h
  · rename_i hs
    obtain rfl := Option.some.inj h
    obtain ⟨m, hm⟩ := ht.mlen
    refine (Tryz.strings_Split a0 a1 m w hs.1 hm hs.2).mono fun e w' ⟨he, hw⟩ => ⟨_, he, ?_, by rw [hw]; exact below_alloc (Below.refl _ _) _⟩
    have hl : (splitF a0 a1).length = Lib.countB a0 a1 + 1 := Lib.splitB_all a1 hs.2 0 _ a0 rfl
    have hc := Lib.countB_le a1 hs.2 _ a0 (Nat.le_refl _)
    refine Kd.R_of_own ?_ (fun _ _ => trivial)
    rw [hw, hl]
    refine ⟨by simp [encs, hl], .inr ⟨w.heap.size, _, _, rfl, Nat.le_refl _, blk_new w _, Nat.le_refl _, by unfold maxLen; omega, ?_, ?_⟩⟩
    · simpa [splitF] using hl
    · rw [List.take_of_length_le]
      · simp [encs, splitF]
      · simp only [List.length_map, splitF] at *; omega
  · cases h
theorem pw_or {w w' : World} {e : TypeId} (h : w' = w ∨ ∃ t, w' = Lib.bytesWorld w e t) : Below w.heap.size w w' := by
  rcases h with rfl | ⟨t, rfl⟩
  · exact Below.refl _ _
  · exact Lib.bytesWorld_below _ _ _
def numB (s : ByteArray) : Int × Bool := match Lib.parseIntB 32 s.data.toList with | .ok v => (v, true) | .syntax => (0, false) | .range => (wrap32 (Lib.intSat 32 s.data.toList), false)
def asm_number.f (a0 : ByteArray) : Option (Int × Bool) := if a0.size ≤ 281474976710656 then some (numB a0) else none
theorem asm_number.calls (a0 : ByteArray) (r1 : Int) (r2 : Bool) (w : World) (ht : Env w) (h : asm_number.f a0 = some (r1, r2)) :
    Calls Tryz.prog 79 #[.string a0] w fun e w' => e = .returned (.tuple #[.int .i32 r1, .bool r2]) ∧ Below w.heap.size w w' := by
  unfold asm_number.f at h
  split at h
  · rename_i hs
    have h := Option.some.inj h
    cases hp : Lib.parseIntB 32 a0.data.toList with
    | ok v =>
      have hv := Lib.parseIntB_bounds hp
      have hc := fun W => Tryz.strconv_ParseInt_10_at32_ok a0 (by omega) v hp W
      simp only [numB, hp, Prod.mk.injEq] at h
      obtain ⟨rfl, rfl⟩ := h
      have hw32 : IntKind.i32.wrap v = v := by rw [IntKind.wrap_i32]; omega
      clear hp ht
      go_enter Tryz.func79, Tryz.ntmps79
      go_wp2_with (go_at_call 87; (with_reducible refine (hc _).mono ?_); rintro e_ w1 ⟨rfl, hw⟩; have hb := Aside0.mk (pw_or hw); clear hw)
      go_region
      go_wp2
      go_ret2
      exact ⟨by simp [hw32], below_drew hb.out⟩
    | «syntax» =>
      obtain ⟨tp, p, hv⟩ := ht.syn
      have hc := Tryz.strconv_ParseInt_10_at32_syntax_var a0 (by omega) hp tp p
      simp only [numB, hp, Prod.mk.injEq] at h
      obtain ⟨rfl, rfl⟩ := h
      have HV := Aside0.mk hv
      clear hp ht hv
      go_enter Tryz.func79, Tryz.ntmps79
      go_wp2_with (go_at_call 87; (with_reducible refine (hc _ HV.out).mono ?_); rintro e_ w1 ⟨n1, rfl, _, _, hb⟩; have HB := Aside0.mk hb; clear hb)
      go_region
      go_wp2
      go_ret2
      exact ⟨by simp, below_drew HB.out⟩
    | range =>
      obtain ⟨tp, p, hv⟩ := ht.rng
      have hc := Tryz.strconv_ParseInt_10_at32_range_var a0 (by omega) hp tp p
      simp only [numB, hp, Prod.mk.injEq] at h
      obtain ⟨rfl, rfl⟩ := h
      generalize Lib.intSat 32 a0.data.toList = v at *
      have hw32 : IntKind.i32.wrap v = wrap32 v := by rw [IntKind.wrap_i32]; unfold wrap32; rfl
      have HV := Aside0.mk hv
      clear hp ht hv
      go_enter Tryz.func79, Tryz.ntmps79
      go_wp2_with (go_at_call 87; (with_reducible refine (hc _ HV.out).mono ?_); rintro e_ w1 ⟨n1, rfl, _, _, hb⟩; have HB := Aside0.mk hb; clear hb)
      go_region
      go_wp2
      go_ret2
      exact ⟨by simp [hw32], below_drew HB.out⟩
  · cases h
def inst_TextE.f (a b c d e : Int) : Option ByteArray := inst_Text.f a b c d e
theorem inst_TextE.calls (a0_0 : Int) (a0_1 : Int) (a0_2 : Int) (a0_3 : Int) (a0_4 : Int) (r : ByteArray) (w : World) (ht : Env w) (h : inst_TextE.f a0_0 a0_1 a0_2 a0_3 a0_4 = some r) :
    Calls Tryz.prog 25 #[.agg #[.int .i64 a0_0, .int .i64 a0_1, .int .i64 a0_2, .int .i64 a0_3, .int .i32 a0_4]] w fun e w' => e = .returned (.string r) ∧ Below w.heap.size w w' := inst_Text.calls a0_0 a0_1 a0_2 a0_3 a0_4 r w ht.tab h
end Go.Proofs.YtbelnkdbghggmaaGreatDoor.X
