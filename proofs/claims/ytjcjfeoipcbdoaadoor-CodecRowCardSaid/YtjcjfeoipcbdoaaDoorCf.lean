/- Contract of level.Read: the level of a sign. -/
import Derived.Test.YtjcjfeoipcbdoaaDoorCe
namespace Go.Proofs.YtjcjfeoipcbdoaaDoor.X
open Go.RowKit Go.Proofs.YtjcjfeoipcbdoaaDoorW.PrintWords Go.Proofs.YtjcjfeoipcbdoaaDoorW.PrintLast Go.Proofs.YtjcjfeoipcbdoaaDoorW.PrintMore
set_option linter.unusedVariables false
set_option linter.unusedSimpArgs false
/-- The levels' signs. -/
def signB (n : Nat) : ByteArray := ⟨#[([42, 48, 49, 50, 51, 74] : List UInt8).getD n 0]⟩
theorem level_sign (n : Nat) (hn : n < 6) : level_Text.f (n : Int) = some (signB n) := by
  have key : ∀ n : Fin 6, level_Text.f (n.1 : Int) = some (signB n.1) := by decide +kernel
  exact key ⟨n, hn⟩
/-- A sign's level, and an error. -/
def levR (s : ByteArray) : Int × Int := match (List.range 6).find? (fun k => (signB k).toList == s.toList) with
  | some k => ((k : Int), 0)
  | none => (0, 11)
theorem levR_at (s : ByteArray) (k : Nat) (hk : k < 6) (h : (signB k).toList = s.toList) (hn : ∀ j, j < k → ¬ (signB j).toList = s.toList) : levR s = ((k : Int), 0) := by
  have hf : (List.range 6).find? (fun k => (signB k).toList == s.toList) = some k := by
    rw [List.find?_eq_some_iff_append]
    refine ⟨by simp [h], List.range k, (List.range' (k + 1) (6 - (k + 1))), ?_, fun j hj => by simp [hn j (List.mem_range.1 hj)]⟩
    rw [List.range_eq_range', List.range_eq_range', show (6 : Nat) = k + (6 - k) by omega]
    rw [← List.range'_append_1, Nat.zero_add, show 6 - k = (6 - (k + 1)) + 1 by omega, List.range'_succ]
    congr 3
    omega
  unfold levR
  rw [hf]
theorem levR_none (s : ByteArray) (hn : ∀ j, j < 6 → ¬ (signB j).toList = s.toList) : levR s = (0, 11) := by
  have hf : (List.range 6).find? (fun k => (signB k).toList == s.toList) = none := by
    rw [List.find?_eq_none]
    intro j hj
    simp [hn j (List.mem_range.1 hj)]
  unfold levR
  rw [hf]
set_option maxRecDepth 100000 in
set_option maxHeartbeats 4000000 in
theorem level_Read_any (s : ByteArray) (w : World) (r : Int × Int) (hr : levR s = r) :
    Calls Tryd.prog 48 #[.string s] w fun e w' => e = .returned (.tuple #[.int .i64 r.1, .int .i64 r.2]) ∧ Drawn0 w w' := by
  have HR := Aside0.mk hr
  clear hr
  go_enter Tryd.func48, Tryd.ntmps48
  go_wp2
  go_loopw [5] (fun i wr => ∃ k : Nat, k ≤ 6 ∧ i = .int .i64 k ∧ Aside0 (∀ j, j < k → ¬ (signB j).toList = s.toList) ∧ Aside0 (Drawn0 w wr)) (fun i _ => 6 - (intOf i).toNat)
  case atStart => exact ⟨0, by omega, rfl, ⟨fun j hj => by omega⟩, ⟨Drawn0.refl _⟩⟩
  case round =>
    obtain ⟨k, hk, rfl, HN, HD⟩ := hrel
    by_cases hlt : k < 6
    · have hsg := level_sign k hlt
      by_cases hq : (signB k).toList = s.toList
      · have hres := levR_at s k hlt hq HN.out
        rw [HR.out] at hres
        have HRS := Aside0.mk hres
        have hqb : ((signB k).toList == s.toList) = true := by simp [hq]
        generalize signB k = g at hsg hqb
        have HS := Aside0.mk hsg
        clear hq hres hsg
        go_wp2_with (go_at_call 25; (with_reducible refine (level_Text.calls _ _ _ HS.out).mono ?_); rintro e_ w1 ⟨rfl, hd⟩)
        go_ret2
        refine ⟨by rw [HRS.out]; rfl, ?_⟩
        obtain ⟨⟨n, rfl⟩⟩ := hd
        exact HD.out.step n
      · have hqb : ((signB k).toList == s.toList) = false := by simp [hq]
        have HN2 : Aside0 (∀ j, j < k + 1 → ¬ (signB j).toList = s.toList) := ⟨fun j hj => by
          by_cases hjk : j = k
          · rw [hjk]; exact hq
          · exact HN.out j (by omega)⟩
        generalize signB k = g at hsg hqb
        have HS := Aside0.mk hsg
        clear hq hsg
        go_wp2_with (go_at_call 25; (with_reducible refine (level_Text.calls _ _ _ HS.out).mono ?_); rintro e_ w1 ⟨rfl, hd⟩)
        obtain ⟨⟨n, rfl⟩⟩ := hd
        go_roundw
        case rel => exact ⟨k + 1, by omega, by go_num, HN2, ⟨HD.out.step n⟩⟩
        case measure => simp [intOf]; omega
    · obtain rfl : k = 6 := by omega
      have hres := levR_none s HN.out
      rw [HR.out] at hres
      have HRS := Aside0.mk hres
      clear hres
      go_wp2
      go_ret2
      exact ⟨by rw [HRS.out]; rfl, HD.out⟩
end Go.Proofs.YtjcjfeoipcbdoaaDoor.X
