/- Texts of this claim that stand one behind another, merged. -/
import Derived.Test.YtbelnkdbghggmaaGreatDoorXx0
import Derived.Lib.Hide
import Derived.Test.YtbelnkdbghggmaaGreatDoorMr2
import Derived.RangeFuncNested
import Derived.RangeFuncBound
import Derived.RangeFuncCalls
import Derived.RangeFuncLeaves
import Derived.Shelf.Abstract
import Derived.Shelf.AbstractIn
import Derived.Shelf.RegionOpen
import Derived.OwnWalkIn
import Derived.TacticsInMore
import Derived.LoopNIn
import Derived.LoopIn
import Derived.Laws.EntriesVeiled
import Derived.WalkSpells
import Derived.Sort.QuietIn
import Derived.Lib.SliceRun
import Derived.Test.YtbelnkdbghggmaaGreatDoorWWords
import Derived.Laws.StructEq
import Derived.Laws.World
import Derived.RangeFuncRecord
import Derived.Maps.Own
import Derived.Deep.QuietTactic
import Derived.BigQuiet
import Derived.OrdersIn
import Derived.KernelRfl
namespace Go.Proofs.YtbelnkdbghggmaaGreatDoor.X
open Go.RowKit Go.Proofs.YtbelnkdbghggmaaGreatDoorW.PrintWords Go.Proofs.YtbelnkdbghggmaaGreatDoorW.PrintLast
set_option linter.unusedVariables false
set_option linter.unusedSimpArgs false
/-- A byte that can't stand in a name at place k. -/
def badN (k : Nat) (c : Int) : Bool :=
  ((!(decide (48 ≤ c) && decide (c ≤ 57))) && (!(decide (97 ≤ Go.bits .or .u8 c 32) && decide (Go.bits .or .u8 c 32 ≤ 122))) && (c != 95)) || (((k : Int) == 0) && (decide (48 ≤ c) && decide (c ≤ 57)))
def namesTo (s : ByteArray) (k : Nat) : Bool := (List.range k).all fun j => !badN j (bt s (j : Int))
def namedB (s : ByteArray) : Bool := namesTo s s.size && (decide (0 < s.size) && decide (s.size ≤ 16))
theorem namesTo_succ (s : ByteArray) (k : Nat) : namesTo s (k + 1) = (namesTo s k && !badN k (bt s (k : Int))) := by
  unfold namesTo
  rw [List.range_succ, List.all_append]
  simp
theorem namesTo_bad {s : ByteArray} {k n : Nat} (hk : k < n) (hb : badN k (bt s (k : Int)) = true) : namesTo s n = false := by
  unfold namesTo
  rw [List.all_eq_false]
  exact ⟨k, List.mem_range.2 hk, by rw [hb]; decide⟩
theorem byte_at (W : World) (s : ByteArray) (k : Nat) (hk : k < s.size) : (Lib.bytesWorld W 5 s).cell? ⟨W.heap.size, k, none⟩ = some (.int .u8 (bt s (k : Int))) := by
  rw [Lib.bytesWorld_cell W 5 s k hk]
  have hk' : k < s.data.toList.length := by rw [data_length]; exact hk
  simp [bt, hk, List.getD_eq_getElem?_getD, List.getElem?_eq_getElem hk']
  rfl
set_option maxRecDepth 100000 in
set_option maxHeartbeats 8000000 in
theorem named_any (s : ByteArray) (hs : s.size ≤ 9223372036854775807) (w : World) : Calls Tryz.prog 28 #[.string s] w fun e w' => e = .returned (.bool (namedB s)) ∧ Below w.heap.size w w' := by
  have kb := fun W => print_bytes (P := Tryz.prog) 9 47 5 Tryz.underlying9 Tryz.underlying47 Tryz.underlying5 s W
  have hcell := byte_at w s
  have hbel := bytes_below (Below.refl w.heap.size w) (Nat.le_refl _) 5 s
  generalize hW1 : Lib.bytesWorld w 5 s = W1 at hcell hbel
  have HC := Lib.hid hcell
  have HB := Lib.hid hbel
  have HW1 := Lib.hid hW1
  clear hcell hbel hW1
  go_enter Tryz.func28, Tryz.ntmps28
  go_wp2
  rw [HW1.out]
  go_loop [10] (fun i => ∃ k : Nat, k ≤ s.size ∧ i = .int .i64 k ∧ namesTo s k = true) (fun i => s.size - (intOf i).toNat)
  case atStart => exact ⟨0, Nat.zero_le _, rfl, rfl⟩
  case round =>
    obtain ⟨k, hk, rfl, hn⟩ := hrel
    by_cases hlt : k < s.size
    · have hc := HC.out k hlt
      have hns := namesTo_succ s k
      have hnb := fun hb => namesTo_bad (s := s) (k := k) (n := s.size) hlt hb
      have hbd : badN k (bt s (k : Int)) = (((!(decide (48 ≤ bt s (k : Int)) && decide (bt s (k : Int) ≤ 57))) && (!(decide (97 ≤ Go.bits .or .u8 (bt s (k : Int)) 32) && decide (Go.bits .or .u8 (bt s (k : Int)) 32 ≤ 122))) && (bt s (k : Int) != 95)) || (((k : Int) == 0) && (decide (48 ≤ bt s (k : Int)) && decide (bt s (k : Int) ≤ 57)))) := rfl
      rw [hn, Bool.true_and] at hns
      generalize bt s (k : Int) = c at *
      generalize ho : Go.bits .or .u8 c 32 = o at *
      clear HC kb
      have HNS := Lib.hid hns
      have HNB := Lib.hid hnb
      have HBD := Lib.hid hbd
      have HN := Lib.hid hn
      clear hns hnb hbd hn
      by_cases h0 : 48 ≤ c <;> by_cases h1 : c ≤ 57 <;> (rcases h4 : (c != 95) with _ | _) <;> by_cases h2 : 97 ≤ o <;> by_cases h3 : o ≤ 122 <;> (rcases h5 : ((k : Int) == 0) with _ | _)
      all_goals first | (exfalso; omega) | (exfalso; (have h4' : c = 95 := by simpa using h4); omega) | skip
      all_goals
        have hbv : badN k c = _ := HBD.out
        simp only [h0, h1, h2, h3, h4, h5, decide_true, decide_false, Bool.and_true, Bool.and_false, Bool.true_and, Bool.false_and, Bool.not_true, Bool.not_false, Bool.or_false, Bool.or_true, Bool.false_or, Bool.true_or] at hbv
        have HBV := Lib.hid hbv
        clear hbv
        go_wp2
        first
        | (go_round
           case rel => exact ⟨k + 1, by omega, by go_num, by rw [HNS.out, HBV.out]; rfl⟩
           case measure => simp [intOf]; omega)
        | (go_ret
           exact ⟨by unfold namedB; rw [HNB.out (by rw [HBV.out]; first | done | rfl)]; first | done | rfl, HB.out⟩)
    · obtain rfl : k = s.size := by omega
      have hl : s.toList.length = s.size := by rw [ByteArray.toList_eq]; exact data_length s
      have HN := Lib.hid hn
      clear hn HC kb
      by_cases h6 : s.toList = []
      · have h7 : s.toList.isEmpty = true := by rw [h6]; rfl
        have h0 : s.size = 0 := by rw [h6] at hl; simpa using hl.symm
        have H0 := Lib.hid h0
        clear h0 hl
        go_wp2
        go_ret
        exact ⟨by unfold namedB; rw [HN.out, H0.out]; rfl, HB.out⟩
      · have h7 : s.toList.isEmpty = false := by cases e : s.toList with | nil => exact absurd e h6 | cons a b => rfl
        have h0 : 0 < s.size := by
          rcases Nat.eq_zero_or_pos s.size with e | e
          · rw [e] at hl; exact absurd (List.length_eq_zero_iff.1 hl) h6
          · exact e
        clear hl
        by_cases h8 : s.size ≤ 16
        all_goals
          go_wp2
          go_ret
          exact ⟨by unfold namedB; rw [HN.out]; simp [h0, h8]; omega, HB.out⟩
end Go.Proofs.YtbelnkdbghggmaaGreatDoor.X
namespace Go.Proofs.YtbelnkdbghggmaaGreatDoor.X
open Go.RowKit Go.Proofs.YtbelnkdbghggmaaGreatDoorW.PrintWords Go.Proofs.YtbelnkdbghggmaaGreatDoorW.PrintLast

set_option linter.unusedVariables false
set_option linter.unusedSimpArgs false

theorem eqA26 (d : Nat) (w : World) (x0 y0 : Int) (x1 y1 : Int) (x2 y2 : Int) (x3 y3 : Int) (x4 y4 : Int) :
    (Op.equalIn (d + 2) 38 (.agg #[.int .i64 x0, .int .i64 x1, .int .i64 x2, .int .i64 x3, .int .i32 x4]) (.agg #[.int .i64 y0, .int .i64 y1, .int .i64 y2, .int .i64 y3, .int .i32 y4])).run Tryz.prog w = .ok (x0 == y0 && (x1 == y1 && (x2 == y2 && (x3 == y3 && (x4 == y4))))) w := by
  refine eqA_of Tryz.underlying38 (by kernel_rfl) ?_
  refine eqf_cons (by rfl) (by go_simp; rfl) (by go_simp; rfl) (by go_simp) ?_
  refine eqf_cons (by rfl) (by go_simp; rfl) (by go_simp; rfl) (by go_simp) ?_
  refine eqf_cons (by rfl) (by go_simp; rfl) (by go_simp; rfl) (by go_simp) ?_
  refine eqf_cons (by rfl) (by go_simp; rfl) (by go_simp; rfl) (by go_simp) ?_
  exact eqf_last (by rfl) (by go_simp; rfl) (by go_simp; rfl) (by go_simp)
theorem eqA28 (d : Nat) (w : World) (x0 y0 : ByteArray) (x1 y1 : Int) (x2 y2 : Int) (x3 y3 : Int) (x4 y4 : Int) (x5 y5 : Int) (x6 y6 : ByteArray) :
    (Op.equalIn (d + 3) 40 (.agg #[.string x0, .int .i64 x1, .int .i64 x2, .int .i64 x3, .int .i64 x4, .int .i32 x5, .string x6]) (.agg #[.string y0, .int .i64 y1, .int .i64 y2, .int .i64 y3, .int .i64 y4, .int .i32 y5, .string y6])).run Tryz.prog w = .ok (x0.toList == y0.toList && ((x1 == y1 && (x2 == y2 && (x3 == y3 && (x4 == y4 && (x5 == y5))))) && (x6.toList == y6.toList))) w := by
  refine eqA_of Tryz.underlying40 (by kernel_rfl) ?_
  refine eqf_cons (by rfl) (by go_simp; rfl) (by go_simp; rfl) (by go_simp) ?_
  refine eqf_cons (by rfl) (by go_simp) (by go_simp) (eqA26 (d + 0) w _ _ _ _ _ _ _ _ _ _) ?_
  exact eqf_last (by rfl) (by go_simp; rfl) (by go_simp; rfl) (by go_simp)
end Go.Proofs.YtbelnkdbghggmaaGreatDoor.X
namespace Go.Proofs.YtbelnkdbghggmaaGreatDoor.X
open Go.RowKit Go.Proofs.YtbelnkdbghggmaaGreatDoorW.PrintWords Go.Proofs.YtbelnkdbghggmaaGreatDoorW.PrintLast

set_option linter.unusedVariables false
set_option linter.unusedSimpArgs false

attribute [local go_sem high] eqA28
def asm_named.f (a0 : ByteArray) : Option Bool := if a0.size ≤ 9223372036854775807 then some (namedB a0) else none
theorem asm_named.calls (a0 : ByteArray) (r : Bool) (w : World) (h : asm_named.f a0 = some r) :
  Calls Tryz.prog 28 #[.string a0] w fun e w' => e = .returned (.bool r) ∧ Below w.heap.size w w' := by
 unfold asm_named.f at h
 split at h
 ·obtain rfl := Qn h
  exact named_any a0 (by assumption) w
 ·cases h
/-! ### asm_jumps: function 41 -/
def asm_jumps.f (a0 : Int) : Option (Bool) := if a0 = 18 then (some true) else (if a0 = 19 then (some true) else (if a0 = 20 then (some true) else (if a0 = 21 then (some true) else (some false))))
set_option maxHeartbeats 8000000 in
set_option maxRecDepth 100000 in
theorem asm_jumps.calls (a0 : Int) (r : Bool) (w : World) (h : asm_jumps.f a0 = some r) :
  Calls Tryz.prog 41 #[.int .i64 a0] w fun e w' => e = .returned (.bool r) ∧ Drawn0 w w' := by
 have H : (if a0 = 18 then (some true) else (if a0 = 19 then (some true) else (if a0 = 20 then (some true) else (if a0 = 21 then (some true) else (some false))))) = some r := h
 clear h
 by_cases c2 : a0 = 18
 ·rw [if_pos c2] at H
  have c2b0 : (a0 == 18) = true := Qm c2
  have c2b1 : (a0 != 18) = false := Qh c2
  clear c2
  obtain rfl := Qn H
  go_enter Tryz.func41, Tryz.ntmps41
  go_wp2
  go_ret
  exact ⟨by first|rfl|(simp; done)|(simp [*]; done), by repeat (first|exact Drawn0.refl _|apply Drawn0.step)⟩
 ·rw [if_neg c2] at H
  have c2b0 : (a0 == 18) = false := Qk c2
  have c2b1 : (a0 != 18) = true := Ql c2
  by_cases c3 : a0 = 19
  ·rw [if_pos c3] at H
   have c3b0 : (a0 == 19) = true := Qm c3
   have c3b1 : (a0 != 19) = false := Qh c3
   clear c3
   obtain rfl := Qn H
   go_enter Tryz.func41, Tryz.ntmps41
   go_wp2
   go_ret
   exact ⟨by first|rfl|(simp; done)|(simp [*]; done), by repeat (first|exact Drawn0.refl _|apply Drawn0.step)⟩
  ·rw [if_neg c3] at H
   have c3b0 : (a0 == 19) = false := Qk c3
   have c3b1 : (a0 != 19) = true := Ql c3
   by_cases c4 : a0 = 20
   ·rw [if_pos c4] at H
    have c4b0 : (a0 == 20) = true := Qm c4
    have c4b1 : (a0 != 20) = false := Qh c4
    clear c4
    obtain rfl := Qn H
    go_enter Tryz.func41, Tryz.ntmps41
    go_wp2
    go_ret
    exact ⟨by first|rfl|(simp; done)|(simp [*]; done), by repeat (first|exact Drawn0.refl _|apply Drawn0.step)⟩
   ·rw [if_neg c4] at H
    have c4b0 : (a0 == 20) = false := Qk c4
    have c4b1 : (a0 != 20) = true := Ql c4
    by_cases c5 : a0 = 21
    ·rw [if_pos c5] at H
     have c5b0 : (a0 == 21) = true := Qm c5
     have c5b1 : (a0 != 21) = false := Qh c5
     clear c5
     obtain rfl := Qn H
     go_enter Tryz.func41, Tryz.ntmps41
     go_wp2
     go_ret
     exact ⟨by first|rfl|(simp; done)|(simp [*]; done), by repeat (first|exact Drawn0.refl _|apply Drawn0.step)⟩
    ·rw [if_neg c5] at H
     have c5b0 : (a0 == 21) = false := Qk c5
     have c5b1 : (a0 != 21) = true := Ql c5
     obtain rfl := Qn H
     go_enter Tryz.func41, Tryz.ntmps41
     go_wp2
     go_ret
     exact ⟨by first|rfl|(simp; done)|(simp [*]; done), by repeat (first|exact Drawn0.refl _|apply Drawn0.step)⟩

/-! ### asm_good: function 17 -/
def asm_good.f (a0_0 : ByteArray) (a0_1 : Int) (a0_2 : Int) (a0_3 : Int) (a0_4 : Int) (a0_5 : Int) (a0_6 : ByteArray) : Option (Bool) := if a0_0.toList = ([] : List UInt8) then ((inst_Fit.f a0_1 a0_2 a0_3 a0_4 a0_5).bind fun t104 => (if t104 = true then (if a0_6.toList = ([] : List UInt8) then (some true) else ((asm_named.f a0_6).bind fun t105 => (if t105 = true then (if a0_1 = 1 then (some true) else ((asm_jumps.f a0_1).bind fun t106 => (if t106 = true then (some (a0_5 == 0)) else (some false)))) else (some false)))) else (some false))) else ((asm_named.f a0_0).bind fun t107 => (if t107 = true then (some ((a0_1 == 0 && (a0_2 == 0 && (a0_3 == 0 && (a0_4 == 0 && (a0_5 == 0))))) && (a0_6.toList == ([] : List UInt8)))) else (some false)))
set_option maxHeartbeats 8000000 in
set_option maxRecDepth 100000 in
theorem asm_good.calls (a0_0 : ByteArray) (a0_1 : Int) (a0_2 : Int) (a0_3 : Int) (a0_4 : Int) (a0_5 : Int) (a0_6 : ByteArray) (r : Bool) (w : World) (h : asm_good.f a0_0 a0_1 a0_2 a0_3 a0_4 a0_5 a0_6 = some r) :
  Calls Tryz.prog 17 #[.agg #[.string a0_0, .int .i64 a0_1, .int .i64 a0_2, .int .i64 a0_3, .int .i64 a0_4, .int .i32 a0_5, .string a0_6]] w fun e w' => e = .returned (.bool r) ∧ Below w.heap.size w w' := by
 have hu28 := Tryz.underlying40
 have hu26 := Tryz.underlying38
 have HB := Q4 (Below.refl w.heap.size w)
 have H := h
 unfold asm_good.f at H
 clear h
 by_cases c2 : a0_0.toList = ([] : List UInt8)
 ·rw [if_pos c2] at H
  have c2b0 : (a0_0.toList == ([] : List UInt8)) = true := Qm c2
  have c2b1 : (a0_0.toList != ([] : List UInt8)) = false := Qh c2
  clear c2
  replace H := Qi H
  obtain ⟨t104, A30, H⟩ := H
  try dsimp only at H
  have A3 := Q4 A30
  clear A30
  by_cases c4 : t104 = true
  ·subst c4
   rw [if_pos rfl] at H
   by_cases c5 : a0_6.toList = ([] : List UInt8)
   ·rw [if_pos c5] at H
    have c5b0 : (a0_6.toList == ([] : List UInt8)) = true := Qm c5
    have c5b1 : (a0_6.toList != ([] : List UInt8)) = false := Qh c5
    clear c5
    obtain rfl := Qn H
    go_enter Tryz.func17, Tryz.ntmps17
    go_wp2_with (first|((with_reducible refine gate_dst (N := 1) rfl ?_); refine box_event ?hg (N := 1) ?hd (cs := #[.string a0_0, .int .i64 a0_1, .int .i64 a0_2, .int .i64 a0_3, .int .i64 a0_4, .int .i32 a0_5, .string a0_6]) (t := 40) ?hr ?_; (case hd => rfl); (case hg => rfl); (case hr => first|(go_simp; done)|(go_simp; rfl)); intro gb103 hg w6 hbox hb; have n0_ := Q4 (Qg (by repeat (first|(with_reducible first|exact HB.out|apply Q8|apply Q5|apply Q9)|exact HB.out)) hb); have n1_ := Q4 (hbox); have n2_ := Q4 ((by rw [hg]; exact bZ : w.heap.size ≤ gb103)); have n3_ := Q4 ((by rw [hg]; exact bZ : w.heap.size ≤ gb103)); clear HB; have HB := n0_; have BK103 := n1_; have GW103 := n2_; have GE103 := n3_; clear n0_ n1_ n2_ n3_; clear hb hbox hg; have hcz7_0 : w6.cell? ⟨gb103, 0, none⟩ = some (.string a0_0) := (Qe BK103.out 0).trans rfl; have hcz7_1 : w6.cell? ⟨gb103, 1, none⟩ = some (.int .i64 a0_1) := (Qe BK103.out 1).trans rfl; have hcz7_2 : w6.cell? ⟨gb103, 2, none⟩ = some (.int .i64 a0_2) := (Qe BK103.out 2).trans rfl; have hcz7_3 : w6.cell? ⟨gb103, 3, none⟩ = some (.int .i64 a0_3) := (Qe BK103.out 3).trans rfl; have hcz7_4 : w6.cell? ⟨gb103, 4, none⟩ = some (.int .i64 a0_4) := (Qe BK103.out 4).trans rfl; have hcz7_5 : w6.cell? ⟨gb103, 5, none⟩ = some (.int .i32 a0_5) := (Qe BK103.out 5).trans rfl; have hcz7_6 : w6.cell? ⟨gb103, 6, none⟩ = some (.string a0_6) := (Qe BK103.out 6).trans rfl; have hfz7_0 := Qd BK103.out 0; have hfz7_1 := Qd BK103.out 1; have hfz7_2 := Qd BK103.out 2; have hfz7_3 := Qd BK103.out 3; have hfz7_4 := Qd BK103.out 4; have hfz7_5 := Qd BK103.out 5; have hfz7_6 := Qd BK103.out 6)|((with_reducible refine gate_callee (f := 40) rfl ?_); refine gL (some 20) Tryz.func40 #[.agg #[.int .i64 a0_1, .int .i64 a0_2, .int .i64 a0_3, .int .i64 a0_4, .int .i32 a0_5]] ?_; (with_reducible refine (inst_Fit.calls a0_1 a0_2 a0_3 a0_4 a0_5 true _ A3.out).mono ?_); rintro e w8 ⟨rfl, hb⟩; refine ⟨_, rfl, ?_⟩; have n0_ := Q4 (Qo (g := gb103) (o := .cells #[.string a0_0, .int .i64 a0_1, .int .i64 a0_2, .int .i64 a0_3, .int .i64 a0_4, .int .i32 a0_5, .string a0_6] 40 (0, 0)) (bK BK103) hb); have n1_ := Q4 (Qg (by repeat (first|(with_reducible first|exact HB.out|apply Q8|apply Q5|apply Q9|refine Q6 ?_ GE103.out)|exact HB.out)) hb); clear BK103; clear HB; have BK103 := n0_; have HB := n1_; clear n0_ n1_;(try clear hb);(try clear hb2);(try clear hk);(try clear hi); have hcz9_0 : w8.cell? ⟨gb103, 0, none⟩ = some (.string a0_0) := (Qe BK103.out 0).trans rfl; have hcz9_1 : w8.cell? ⟨gb103, 1, none⟩ = some (.int .i64 a0_1) := (Qe BK103.out 1).trans rfl; have hcz9_2 : w8.cell? ⟨gb103, 2, none⟩ = some (.int .i64 a0_2) := (Qe BK103.out 2).trans rfl; have hcz9_3 : w8.cell? ⟨gb103, 3, none⟩ = some (.int .i64 a0_3) := (Qe BK103.out 3).trans rfl; have hcz9_4 : w8.cell? ⟨gb103, 4, none⟩ = some (.int .i64 a0_4) := (Qe BK103.out 4).trans rfl; have hcz9_5 : w8.cell? ⟨gb103, 5, none⟩ = some (.int .i32 a0_5) := (Qe BK103.out 5).trans rfl; have hcz9_6 : w8.cell? ⟨gb103, 6, none⟩ = some (.string a0_6) := (Qe BK103.out 6).trans rfl; have hfz9_0 := Qd BK103.out 0; have hfz9_1 := Qd BK103.out 1; have hfz9_2 := Qd BK103.out 2; have hfz9_3 := Qd BK103.out 3; have hfz9_4 := Qd BK103.out 4; have hfz9_5 := Qd BK103.out 5; have hfz9_6 := Qd BK103.out 6))
    go_ret
    exact ⟨by first|rfl|(simp [errW_none, errW_some] <;> rfl)|(simp [*, errW_none, errW_some] <;> rfl), by repeat (first|(with_reducible first|exact HB.out|apply Q8|apply Q5|apply Q9|refine Q6 ?_ GE103.out)|exact HB.out)⟩
   ·rw [if_neg c5] at H
    have c5b0 : (a0_6.toList == ([] : List UInt8)) = false := Qk c5
    have c5b1 : (a0_6.toList != ([] : List UInt8)) = true := Ql c5
    replace H := Qi H
    obtain ⟨t105, A100, H⟩ := H
    try dsimp only at H
    have A10 := Q4 A100
    clear A100
    by_cases c11 : t105 = true
    ·subst c11
     rw [if_pos rfl] at H
     by_cases c12 : a0_1 = 1
     ·rw [if_pos c12] at H
      have c12b0 : (a0_1 == 1) = true := Qm c12
      have c12b1 : (a0_1 != 1) = false := Qh c12
      clear c12
      obtain rfl := Qn H
      go_enter Tryz.func17, Tryz.ntmps17
      go_wp2_with (first|((with_reducible refine gate_dst (N := 1) rfl ?_); refine box_event ?hg (N := 1) ?hd (cs := #[.string a0_0, .int .i64 a0_1, .int .i64 a0_2, .int .i64 a0_3, .int .i64 a0_4, .int .i32 a0_5, .string a0_6]) (t := 40) ?hr ?_; (case hd => rfl); (case hg => rfl); (case hr => first|(go_simp; done)|(go_simp; rfl)); intro gb103 hg w13 hbox hb; have n0_ := Q4 (Qg (by repeat (first|(with_reducible first|exact HB.out|apply Q8|apply Q5|apply Q9)|exact HB.out)) hb); have n1_ := Q4 (hbox); have n2_ := Q4 ((by rw [hg]; exact bZ : w.heap.size ≤ gb103)); have n3_ := Q4 ((by rw [hg]; exact bZ : w.heap.size ≤ gb103)); clear HB; have HB := n0_; have BK103 := n1_; have GW103 := n2_; have GE103 := n3_; clear n0_ n1_ n2_ n3_; clear hb hbox hg; have hcz14_0 : w13.cell? ⟨gb103, 0, none⟩ = some (.string a0_0) := (Qe BK103.out 0).trans rfl; have hcz14_1 : w13.cell? ⟨gb103, 1, none⟩ = some (.int .i64 a0_1) := (Qe BK103.out 1).trans rfl; have hcz14_2 : w13.cell? ⟨gb103, 2, none⟩ = some (.int .i64 a0_2) := (Qe BK103.out 2).trans rfl; have hcz14_3 : w13.cell? ⟨gb103, 3, none⟩ = some (.int .i64 a0_3) := (Qe BK103.out 3).trans rfl; have hcz14_4 : w13.cell? ⟨gb103, 4, none⟩ = some (.int .i64 a0_4) := (Qe BK103.out 4).trans rfl; have hcz14_5 : w13.cell? ⟨gb103, 5, none⟩ = some (.int .i32 a0_5) := (Qe BK103.out 5).trans rfl; have hcz14_6 : w13.cell? ⟨gb103, 6, none⟩ = some (.string a0_6) := (Qe BK103.out 6).trans rfl; have hfz14_0 := Qd BK103.out 0; have hfz14_1 := Qd BK103.out 1; have hfz14_2 := Qd BK103.out 2; have hfz14_3 := Qd BK103.out 3; have hfz14_4 := Qd BK103.out 4; have hfz14_5 := Qd BK103.out 5; have hfz14_6 := Qd BK103.out 6)|((with_reducible refine gate_callee (f := 40) rfl ?_); refine gL (some 20) Tryz.func40 #[.agg #[.int .i64 a0_1, .int .i64 a0_2, .int .i64 a0_3, .int .i64 a0_4, .int .i32 a0_5]] ?_; (with_reducible refine (inst_Fit.calls a0_1 a0_2 a0_3 a0_4 a0_5 true _ A3.out).mono ?_); rintro e w15 ⟨rfl, hb⟩; refine ⟨_, rfl, ?_⟩; have n0_ := Q4 (Qo (g := gb103) (o := .cells #[.string a0_0, .int .i64 a0_1, .int .i64 a0_2, .int .i64 a0_3, .int .i64 a0_4, .int .i32 a0_5, .string a0_6] 40 (0, 0)) (bK BK103) hb); have n1_ := Q4 (Qg (by repeat (first|(with_reducible first|exact HB.out|apply Q8|apply Q5|apply Q9|refine Q6 ?_ GE103.out)|exact HB.out)) hb); clear BK103; clear HB; have BK103 := n0_; have HB := n1_; clear n0_ n1_;(try clear hb);(try clear hb2);(try clear hk);(try clear hi); have hcz16_0 : w15.cell? ⟨gb103, 0, none⟩ = some (.string a0_0) := (Qe BK103.out 0).trans rfl; have hcz16_1 : w15.cell? ⟨gb103, 1, none⟩ = some (.int .i64 a0_1) := (Qe BK103.out 1).trans rfl; have hcz16_2 : w15.cell? ⟨gb103, 2, none⟩ = some (.int .i64 a0_2) := (Qe BK103.out 2).trans rfl; have hcz16_3 : w15.cell? ⟨gb103, 3, none⟩ = some (.int .i64 a0_3) := (Qe BK103.out 3).trans rfl; have hcz16_4 : w15.cell? ⟨gb103, 4, none⟩ = some (.int .i64 a0_4) := (Qe BK103.out 4).trans rfl; have hcz16_5 : w15.cell? ⟨gb103, 5, none⟩ = some (.int .i32 a0_5) := (Qe BK103.out 5).trans rfl; have hcz16_6 : w15.cell? ⟨gb103, 6, none⟩ = some (.string a0_6) := (Qe BK103.out 6).trans rfl; have hfz16_0 := Qd BK103.out 0; have hfz16_1 := Qd BK103.out 1; have hfz16_2 := Qd BK103.out 2; have hfz16_3 := Qd BK103.out 3; have hfz16_4 := Qd BK103.out 4; have hfz16_5 := Qd BK103.out 5; have hfz16_6 := Qd BK103.out 6)|((with_reducible refine gate_callee (f := 28) rfl ?_); refine gL (some 29) Tryz.func28 #[.string a0_6] ?_; (with_reducible refine (asm_named.calls a0_6 true _ A10.out).mono ?_); rintro e w17 ⟨rfl, hb⟩; refine ⟨_, rfl, ?_⟩; have n0_ := Q4 (Qo (g := gb103) (o := .cells #[.string a0_0, .int .i64 a0_1, .int .i64 a0_2, .int .i64 a0_3, .int .i64 a0_4, .int .i32 a0_5, .string a0_6] 40 (0, 0)) (bK BK103) hb); have n1_ := Q4 (Qg (by repeat (first|(with_reducible first|exact HB.out|apply Q8|apply Q5|apply Q9|refine Q6 ?_ GE103.out)|exact HB.out)) hb); clear BK103; clear HB; have BK103 := n0_; have HB := n1_; clear n0_ n1_;(try clear hb);(try clear hb2);(try clear hk);(try clear hi); have hcz18_0 : w17.cell? ⟨gb103, 0, none⟩ = some (.string a0_0) := (Qe BK103.out 0).trans rfl; have hcz18_1 : w17.cell? ⟨gb103, 1, none⟩ = some (.int .i64 a0_1) := (Qe BK103.out 1).trans rfl; have hcz18_2 : w17.cell? ⟨gb103, 2, none⟩ = some (.int .i64 a0_2) := (Qe BK103.out 2).trans rfl; have hcz18_3 : w17.cell? ⟨gb103, 3, none⟩ = some (.int .i64 a0_3) := (Qe BK103.out 3).trans rfl; have hcz18_4 : w17.cell? ⟨gb103, 4, none⟩ = some (.int .i64 a0_4) := (Qe BK103.out 4).trans rfl; have hcz18_5 : w17.cell? ⟨gb103, 5, none⟩ = some (.int .i32 a0_5) := (Qe BK103.out 5).trans rfl; have hcz18_6 : w17.cell? ⟨gb103, 6, none⟩ = some (.string a0_6) := (Qe BK103.out 6).trans rfl; have hfz18_0 := Qd BK103.out 0; have hfz18_1 := Qd BK103.out 1; have hfz18_2 := Qd BK103.out 2; have hfz18_3 := Qd BK103.out 3; have hfz18_4 := Qd BK103.out 4; have hfz18_5 := Qd BK103.out 5; have hfz18_6 := Qd BK103.out 6))
      go_ret
      exact ⟨by first|rfl|(simp [errW_none, errW_some] <;> rfl)|(simp [*, errW_none, errW_some] <;> rfl), by repeat (first|(with_reducible first|exact HB.out|apply Q8|apply Q5|apply Q9|refine Q6 ?_ GE103.out)|exact HB.out)⟩
     ·rw [if_neg c12] at H
      have c12b0 : (a0_1 == 1) = false := Qk c12
      have c12b1 : (a0_1 != 1) = true := Ql c12
      replace H := Qi H
      obtain ⟨t106, A190, H⟩ := H
      try dsimp only at H
      have A19 := Q4 A190
      clear A190
      by_cases c20 : t106 = true
      ·subst c20
       rw [if_pos rfl] at H
       obtain rfl := Qn H
       go_enter Tryz.func17, Tryz.ntmps17
       go_wp2_with (first|((with_reducible refine gate_dst (N := 1) rfl ?_); refine box_event ?hg (N := 1) ?hd (cs := #[.string a0_0, .int .i64 a0_1, .int .i64 a0_2, .int .i64 a0_3, .int .i64 a0_4, .int .i32 a0_5, .string a0_6]) (t := 40) ?hr ?_; (case hd => rfl); (case hg => rfl); (case hr => first|(go_simp; done)|(go_simp; rfl)); intro gb103 hg w21 hbox hb; have n0_ := Q4 (Qg (by repeat (first|(with_reducible first|exact HB.out|apply Q8|apply Q5|apply Q9)|exact HB.out)) hb); have n1_ := Q4 (hbox); have n2_ := Q4 ((by rw [hg]; exact bZ : w.heap.size ≤ gb103)); have n3_ := Q4 ((by rw [hg]; exact bZ : w.heap.size ≤ gb103)); clear HB; have HB := n0_; have BK103 := n1_; have GW103 := n2_; have GE103 := n3_; clear n0_ n1_ n2_ n3_; clear hb hbox hg; have hcz22_0 : w21.cell? ⟨gb103, 0, none⟩ = some (.string a0_0) := (Qe BK103.out 0).trans rfl; have hcz22_1 : w21.cell? ⟨gb103, 1, none⟩ = some (.int .i64 a0_1) := (Qe BK103.out 1).trans rfl; have hcz22_2 : w21.cell? ⟨gb103, 2, none⟩ = some (.int .i64 a0_2) := (Qe BK103.out 2).trans rfl; have hcz22_3 : w21.cell? ⟨gb103, 3, none⟩ = some (.int .i64 a0_3) := (Qe BK103.out 3).trans rfl; have hcz22_4 : w21.cell? ⟨gb103, 4, none⟩ = some (.int .i64 a0_4) := (Qe BK103.out 4).trans rfl; have hcz22_5 : w21.cell? ⟨gb103, 5, none⟩ = some (.int .i32 a0_5) := (Qe BK103.out 5).trans rfl; have hcz22_6 : w21.cell? ⟨gb103, 6, none⟩ = some (.string a0_6) := (Qe BK103.out 6).trans rfl; have hfz22_0 := Qd BK103.out 0; have hfz22_1 := Qd BK103.out 1; have hfz22_2 := Qd BK103.out 2; have hfz22_3 := Qd BK103.out 3; have hfz22_4 := Qd BK103.out 4; have hfz22_5 := Qd BK103.out 5; have hfz22_6 := Qd BK103.out 6)|((with_reducible refine gate_callee (f := 40) rfl ?_); refine gL (some 20) Tryz.func40 #[.agg #[.int .i64 a0_1, .int .i64 a0_2, .int .i64 a0_3, .int .i64 a0_4, .int .i32 a0_5]] ?_; (with_reducible refine (inst_Fit.calls a0_1 a0_2 a0_3 a0_4 a0_5 true _ A3.out).mono ?_); rintro e w23 ⟨rfl, hb⟩; refine ⟨_, rfl, ?_⟩; have n0_ := Q4 (Qo (g := gb103) (o := .cells #[.string a0_0, .int .i64 a0_1, .int .i64 a0_2, .int .i64 a0_3, .int .i64 a0_4, .int .i32 a0_5, .string a0_6] 40 (0, 0)) (bK BK103) hb); have n1_ := Q4 (Qg (by repeat (first|(with_reducible first|exact HB.out|apply Q8|apply Q5|apply Q9|refine Q6 ?_ GE103.out)|exact HB.out)) hb); clear BK103; clear HB; have BK103 := n0_; have HB := n1_; clear n0_ n1_;(try clear hb);(try clear hb2);(try clear hk);(try clear hi); have hcz24_0 : w23.cell? ⟨gb103, 0, none⟩ = some (.string a0_0) := (Qe BK103.out 0).trans rfl; have hcz24_1 : w23.cell? ⟨gb103, 1, none⟩ = some (.int .i64 a0_1) := (Qe BK103.out 1).trans rfl; have hcz24_2 : w23.cell? ⟨gb103, 2, none⟩ = some (.int .i64 a0_2) := (Qe BK103.out 2).trans rfl; have hcz24_3 : w23.cell? ⟨gb103, 3, none⟩ = some (.int .i64 a0_3) := (Qe BK103.out 3).trans rfl; have hcz24_4 : w23.cell? ⟨gb103, 4, none⟩ = some (.int .i64 a0_4) := (Qe BK103.out 4).trans rfl; have hcz24_5 : w23.cell? ⟨gb103, 5, none⟩ = some (.int .i32 a0_5) := (Qe BK103.out 5).trans rfl; have hcz24_6 : w23.cell? ⟨gb103, 6, none⟩ = some (.string a0_6) := (Qe BK103.out 6).trans rfl; have hfz24_0 := Qd BK103.out 0; have hfz24_1 := Qd BK103.out 1; have hfz24_2 := Qd BK103.out 2; have hfz24_3 := Qd BK103.out 3; have hfz24_4 := Qd BK103.out 4; have hfz24_5 := Qd BK103.out 5; have hfz24_6 := Qd BK103.out 6)|((with_reducible refine gate_callee (f := 28) rfl ?_); refine gL (some 29) Tryz.func28 #[.string a0_6] ?_; (with_reducible refine (asm_named.calls a0_6 true _ A10.out).mono ?_); rintro e w25 ⟨rfl, hb⟩; refine ⟨_, rfl, ?_⟩; have n0_ := Q4 (Qo (g := gb103) (o := .cells #[.string a0_0, .int .i64 a0_1, .int .i64 a0_2, .int .i64 a0_3, .int .i64 a0_4, .int .i32 a0_5, .string a0_6] 40 (0, 0)) (bK BK103) hb); have n1_ := Q4 (Qg (by repeat (first|(with_reducible first|exact HB.out|apply Q8|apply Q5|apply Q9|refine Q6 ?_ GE103.out)|exact HB.out)) hb); clear BK103; clear HB; have BK103 := n0_; have HB := n1_; clear n0_ n1_;(try clear hb);(try clear hb2);(try clear hk);(try clear hi); have hcz26_0 : w25.cell? ⟨gb103, 0, none⟩ = some (.string a0_0) := (Qe BK103.out 0).trans rfl; have hcz26_1 : w25.cell? ⟨gb103, 1, none⟩ = some (.int .i64 a0_1) := (Qe BK103.out 1).trans rfl; have hcz26_2 : w25.cell? ⟨gb103, 2, none⟩ = some (.int .i64 a0_2) := (Qe BK103.out 2).trans rfl; have hcz26_3 : w25.cell? ⟨gb103, 3, none⟩ = some (.int .i64 a0_3) := (Qe BK103.out 3).trans rfl; have hcz26_4 : w25.cell? ⟨gb103, 4, none⟩ = some (.int .i64 a0_4) := (Qe BK103.out 4).trans rfl; have hcz26_5 : w25.cell? ⟨gb103, 5, none⟩ = some (.int .i32 a0_5) := (Qe BK103.out 5).trans rfl; have hcz26_6 : w25.cell? ⟨gb103, 6, none⟩ = some (.string a0_6) := (Qe BK103.out 6).trans rfl; have hfz26_0 := Qd BK103.out 0; have hfz26_1 := Qd BK103.out 1; have hfz26_2 := Qd BK103.out 2; have hfz26_3 := Qd BK103.out 3; have hfz26_4 := Qd BK103.out 4; have hfz26_5 := Qd BK103.out 5; have hfz26_6 := Qd BK103.out 6)|(go_at_call 41; (with_reducible refine (asm_jumps.calls a0_1 true _ A19.out).mono ?_); rintro e w' ⟨rfl, ⟨nd, rfl⟩⟩))
       go_ret
       exact ⟨by first|rfl|(simp [errW_none, errW_some] <;> rfl)|(simp [*, errW_none, errW_some] <;> rfl), by repeat (first|(with_reducible first|exact HB.out|apply Q8|apply Q5|apply Q9|refine Q6 ?_ GE103.out)|exact HB.out)⟩
      ·replace c20 := Bool.eq_false_iff.mpr c20
       subst c20
       rw [if_neg (show ¬ (false = true) by decide)] at H
       obtain rfl := Qn H
       go_enter Tryz.func17, Tryz.ntmps17
       go_wp2_with (first|((with_reducible refine gate_dst (N := 1) rfl ?_); refine box_event ?hg (N := 1) ?hd (cs := #[.string a0_0, .int .i64 a0_1, .int .i64 a0_2, .int .i64 a0_3, .int .i64 a0_4, .int .i32 a0_5, .string a0_6]) (t := 40) ?hr ?_; (case hd => rfl); (case hg => rfl); (case hr => first|(go_simp; done)|(go_simp; rfl)); intro gb103 hg w27 hbox hb; have n0_ := Q4 (Qg (by repeat (first|(with_reducible first|exact HB.out|apply Q8|apply Q5|apply Q9)|exact HB.out)) hb); have n1_ := Q4 (hbox); have n2_ := Q4 ((by rw [hg]; exact bZ : w.heap.size ≤ gb103)); have n3_ := Q4 ((by rw [hg]; exact bZ : w.heap.size ≤ gb103)); clear HB; have HB := n0_; have BK103 := n1_; have GW103 := n2_; have GE103 := n3_; clear n0_ n1_ n2_ n3_; clear hb hbox hg; have hcz28_0 : w27.cell? ⟨gb103, 0, none⟩ = some (.string a0_0) := (Qe BK103.out 0).trans rfl; have hcz28_1 : w27.cell? ⟨gb103, 1, none⟩ = some (.int .i64 a0_1) := (Qe BK103.out 1).trans rfl; have hcz28_2 : w27.cell? ⟨gb103, 2, none⟩ = some (.int .i64 a0_2) := (Qe BK103.out 2).trans rfl; have hcz28_3 : w27.cell? ⟨gb103, 3, none⟩ = some (.int .i64 a0_3) := (Qe BK103.out 3).trans rfl; have hcz28_4 : w27.cell? ⟨gb103, 4, none⟩ = some (.int .i64 a0_4) := (Qe BK103.out 4).trans rfl; have hcz28_5 : w27.cell? ⟨gb103, 5, none⟩ = some (.int .i32 a0_5) := (Qe BK103.out 5).trans rfl; have hcz28_6 : w27.cell? ⟨gb103, 6, none⟩ = some (.string a0_6) := (Qe BK103.out 6).trans rfl; have hfz28_0 := Qd BK103.out 0; have hfz28_1 := Qd BK103.out 1; have hfz28_2 := Qd BK103.out 2; have hfz28_3 := Qd BK103.out 3; have hfz28_4 := Qd BK103.out 4; have hfz28_5 := Qd BK103.out 5; have hfz28_6 := Qd BK103.out 6)|((with_reducible refine gate_callee (f := 40) rfl ?_); refine gL (some 20) Tryz.func40 #[.agg #[.int .i64 a0_1, .int .i64 a0_2, .int .i64 a0_3, .int .i64 a0_4, .int .i32 a0_5]] ?_; (with_reducible refine (inst_Fit.calls a0_1 a0_2 a0_3 a0_4 a0_5 true _ A3.out).mono ?_); rintro e w29 ⟨rfl, hb⟩; refine ⟨_, rfl, ?_⟩; have n0_ := Q4 (Qo (g := gb103) (o := .cells #[.string a0_0, .int .i64 a0_1, .int .i64 a0_2, .int .i64 a0_3, .int .i64 a0_4, .int .i32 a0_5, .string a0_6] 40 (0, 0)) (bK BK103) hb); have n1_ := Q4 (Qg (by repeat (first|(with_reducible first|exact HB.out|apply Q8|apply Q5|apply Q9|refine Q6 ?_ GE103.out)|exact HB.out)) hb); clear BK103; clear HB; have BK103 := n0_; have HB := n1_; clear n0_ n1_;(try clear hb);(try clear hb2);(try clear hk);(try clear hi); have hcz30_0 : w29.cell? ⟨gb103, 0, none⟩ = some (.string a0_0) := (Qe BK103.out 0).trans rfl; have hcz30_1 : w29.cell? ⟨gb103, 1, none⟩ = some (.int .i64 a0_1) := (Qe BK103.out 1).trans rfl; have hcz30_2 : w29.cell? ⟨gb103, 2, none⟩ = some (.int .i64 a0_2) := (Qe BK103.out 2).trans rfl; have hcz30_3 : w29.cell? ⟨gb103, 3, none⟩ = some (.int .i64 a0_3) := (Qe BK103.out 3).trans rfl; have hcz30_4 : w29.cell? ⟨gb103, 4, none⟩ = some (.int .i64 a0_4) := (Qe BK103.out 4).trans rfl; have hcz30_5 : w29.cell? ⟨gb103, 5, none⟩ = some (.int .i32 a0_5) := (Qe BK103.out 5).trans rfl; have hcz30_6 : w29.cell? ⟨gb103, 6, none⟩ = some (.string a0_6) := (Qe BK103.out 6).trans rfl; have hfz30_0 := Qd BK103.out 0; have hfz30_1 := Qd BK103.out 1; have hfz30_2 := Qd BK103.out 2; have hfz30_3 := Qd BK103.out 3; have hfz30_4 := Qd BK103.out 4; have hfz30_5 := Qd BK103.out 5; have hfz30_6 := Qd BK103.out 6)|((with_reducible refine gate_callee (f := 28) rfl ?_); refine gL (some 29) Tryz.func28 #[.string a0_6] ?_; (with_reducible refine (asm_named.calls a0_6 true _ A10.out).mono ?_); rintro e w31 ⟨rfl, hb⟩; refine ⟨_, rfl, ?_⟩; have n0_ := Q4 (Qo (g := gb103) (o := .cells #[.string a0_0, .int .i64 a0_1, .int .i64 a0_2, .int .i64 a0_3, .int .i64 a0_4, .int .i32 a0_5, .string a0_6] 40 (0, 0)) (bK BK103) hb); have n1_ := Q4 (Qg (by repeat (first|(with_reducible first|exact HB.out|apply Q8|apply Q5|apply Q9|refine Q6 ?_ GE103.out)|exact HB.out)) hb); clear BK103; clear HB; have BK103 := n0_; have HB := n1_; clear n0_ n1_;(try clear hb);(try clear hb2);(try clear hk);(try clear hi); have hcz32_0 : w31.cell? ⟨gb103, 0, none⟩ = some (.string a0_0) := (Qe BK103.out 0).trans rfl; have hcz32_1 : w31.cell? ⟨gb103, 1, none⟩ = some (.int .i64 a0_1) := (Qe BK103.out 1).trans rfl; have hcz32_2 : w31.cell? ⟨gb103, 2, none⟩ = some (.int .i64 a0_2) := (Qe BK103.out 2).trans rfl; have hcz32_3 : w31.cell? ⟨gb103, 3, none⟩ = some (.int .i64 a0_3) := (Qe BK103.out 3).trans rfl; have hcz32_4 : w31.cell? ⟨gb103, 4, none⟩ = some (.int .i64 a0_4) := (Qe BK103.out 4).trans rfl; have hcz32_5 : w31.cell? ⟨gb103, 5, none⟩ = some (.int .i32 a0_5) := (Qe BK103.out 5).trans rfl; have hcz32_6 : w31.cell? ⟨gb103, 6, none⟩ = some (.string a0_6) := (Qe BK103.out 6).trans rfl; have hfz32_0 := Qd BK103.out 0; have hfz32_1 := Qd BK103.out 1; have hfz32_2 := Qd BK103.out 2; have hfz32_3 := Qd BK103.out 3; have hfz32_4 := Qd BK103.out 4; have hfz32_5 := Qd BK103.out 5; have hfz32_6 := Qd BK103.out 6)|(go_at_call 41; (with_reducible refine (asm_jumps.calls a0_1 false _ A19.out).mono ?_); rintro e w' ⟨rfl, ⟨nd, rfl⟩⟩))
       go_ret
       exact ⟨by first|rfl|(simp [errW_none, errW_some] <;> rfl)|(simp [*, errW_none, errW_some] <;> rfl), by repeat (first|(with_reducible first|exact HB.out|apply Q8|apply Q5|apply Q9|refine Q6 ?_ GE103.out)|exact HB.out)⟩
    ·replace c11 := Bool.eq_false_iff.mpr c11
     subst c11
     rw [if_neg (show ¬ (false = true) by decide)] at H
     obtain rfl := Qn H
     go_enter Tryz.func17, Tryz.ntmps17
     go_wp2_with (first|((with_reducible refine gate_dst (N := 1) rfl ?_); refine box_event ?hg (N := 1) ?hd (cs := #[.string a0_0, .int .i64 a0_1, .int .i64 a0_2, .int .i64 a0_3, .int .i64 a0_4, .int .i32 a0_5, .string a0_6]) (t := 40) ?hr ?_; (case hd => rfl); (case hg => rfl); (case hr => first|(go_simp; done)|(go_simp; rfl)); intro gb103 hg w33 hbox hb; have n0_ := Q4 (Qg (by repeat (first|(with_reducible first|exact HB.out|apply Q8|apply Q5|apply Q9)|exact HB.out)) hb); have n1_ := Q4 (hbox); have n2_ := Q4 ((by rw [hg]; exact bZ : w.heap.size ≤ gb103)); have n3_ := Q4 ((by rw [hg]; exact bZ : w.heap.size ≤ gb103)); clear HB; have HB := n0_; have BK103 := n1_; have GW103 := n2_; have GE103 := n3_; clear n0_ n1_ n2_ n3_; clear hb hbox hg; have hcz34_0 : w33.cell? ⟨gb103, 0, none⟩ = some (.string a0_0) := (Qe BK103.out 0).trans rfl; have hcz34_1 : w33.cell? ⟨gb103, 1, none⟩ = some (.int .i64 a0_1) := (Qe BK103.out 1).trans rfl; have hcz34_2 : w33.cell? ⟨gb103, 2, none⟩ = some (.int .i64 a0_2) := (Qe BK103.out 2).trans rfl; have hcz34_3 : w33.cell? ⟨gb103, 3, none⟩ = some (.int .i64 a0_3) := (Qe BK103.out 3).trans rfl; have hcz34_4 : w33.cell? ⟨gb103, 4, none⟩ = some (.int .i64 a0_4) := (Qe BK103.out 4).trans rfl; have hcz34_5 : w33.cell? ⟨gb103, 5, none⟩ = some (.int .i32 a0_5) := (Qe BK103.out 5).trans rfl; have hcz34_6 : w33.cell? ⟨gb103, 6, none⟩ = some (.string a0_6) := (Qe BK103.out 6).trans rfl; have hfz34_0 := Qd BK103.out 0; have hfz34_1 := Qd BK103.out 1; have hfz34_2 := Qd BK103.out 2; have hfz34_3 := Qd BK103.out 3; have hfz34_4 := Qd BK103.out 4; have hfz34_5 := Qd BK103.out 5; have hfz34_6 := Qd BK103.out 6)|((with_reducible refine gate_callee (f := 40) rfl ?_); refine gL (some 20) Tryz.func40 #[.agg #[.int .i64 a0_1, .int .i64 a0_2, .int .i64 a0_3, .int .i64 a0_4, .int .i32 a0_5]] ?_; (with_reducible refine (inst_Fit.calls a0_1 a0_2 a0_3 a0_4 a0_5 true _ A3.out).mono ?_); rintro e w35 ⟨rfl, hb⟩; refine ⟨_, rfl, ?_⟩; have n0_ := Q4 (Qo (g := gb103) (o := .cells #[.string a0_0, .int .i64 a0_1, .int .i64 a0_2, .int .i64 a0_3, .int .i64 a0_4, .int .i32 a0_5, .string a0_6] 40 (0, 0)) (bK BK103) hb); have n1_ := Q4 (Qg (by repeat (first|(with_reducible first|exact HB.out|apply Q8|apply Q5|apply Q9|refine Q6 ?_ GE103.out)|exact HB.out)) hb); clear BK103; clear HB; have BK103 := n0_; have HB := n1_; clear n0_ n1_;(try clear hb);(try clear hb2);(try clear hk);(try clear hi); have hcz36_0 : w35.cell? ⟨gb103, 0, none⟩ = some (.string a0_0) := (Qe BK103.out 0).trans rfl; have hcz36_1 : w35.cell? ⟨gb103, 1, none⟩ = some (.int .i64 a0_1) := (Qe BK103.out 1).trans rfl; have hcz36_2 : w35.cell? ⟨gb103, 2, none⟩ = some (.int .i64 a0_2) := (Qe BK103.out 2).trans rfl; have hcz36_3 : w35.cell? ⟨gb103, 3, none⟩ = some (.int .i64 a0_3) := (Qe BK103.out 3).trans rfl; have hcz36_4 : w35.cell? ⟨gb103, 4, none⟩ = some (.int .i64 a0_4) := (Qe BK103.out 4).trans rfl; have hcz36_5 : w35.cell? ⟨gb103, 5, none⟩ = some (.int .i32 a0_5) := (Qe BK103.out 5).trans rfl; have hcz36_6 : w35.cell? ⟨gb103, 6, none⟩ = some (.string a0_6) := (Qe BK103.out 6).trans rfl; have hfz36_0 := Qd BK103.out 0; have hfz36_1 := Qd BK103.out 1; have hfz36_2 := Qd BK103.out 2; have hfz36_3 := Qd BK103.out 3; have hfz36_4 := Qd BK103.out 4; have hfz36_5 := Qd BK103.out 5; have hfz36_6 := Qd BK103.out 6)|((with_reducible refine gate_callee (f := 28) rfl ?_); refine gL (some 29) Tryz.func28 #[.string a0_6] ?_; (with_reducible refine (asm_named.calls a0_6 false _ A10.out).mono ?_); rintro e w37 ⟨rfl, hb⟩; refine ⟨_, rfl, ?_⟩; have n0_ := Q4 (Qo (g := gb103) (o := .cells #[.string a0_0, .int .i64 a0_1, .int .i64 a0_2, .int .i64 a0_3, .int .i64 a0_4, .int .i32 a0_5, .string a0_6] 40 (0, 0)) (bK BK103) hb); have n1_ := Q4 (Qg (by repeat (first|(with_reducible first|exact HB.out|apply Q8|apply Q5|apply Q9|refine Q6 ?_ GE103.out)|exact HB.out)) hb); clear BK103; clear HB; have BK103 := n0_; have HB := n1_; clear n0_ n1_;(try clear hb);(try clear hb2);(try clear hk);(try clear hi)))
     go_ret
     exact ⟨by first|rfl|(simp [errW_none, errW_some] <;> rfl)|(simp [*, errW_none, errW_some] <;> rfl), by repeat (first|(with_reducible first|exact HB.out|apply Q8|apply Q5|apply Q9|refine Q6 ?_ GE103.out)|exact HB.out)⟩
  ·replace c4 := Bool.eq_false_iff.mpr c4
   subst c4
   rw [if_neg (show ¬ (false = true) by decide)] at H
   obtain rfl := Qn H
   go_enter Tryz.func17, Tryz.ntmps17
   go_wp2_with (first|((with_reducible refine gate_dst (N := 1) rfl ?_); refine box_event ?hg (N := 1) ?hd (cs := #[.string a0_0, .int .i64 a0_1, .int .i64 a0_2, .int .i64 a0_3, .int .i64 a0_4, .int .i32 a0_5, .string a0_6]) (t := 40) ?hr ?_; (case hd => rfl); (case hg => rfl); (case hr => first|(go_simp; done)|(go_simp; rfl)); intro gb103 hg w38 hbox hb; have n0_ := Q4 (Qg (by repeat (first|(with_reducible first|exact HB.out|apply Q8|apply Q5|apply Q9)|exact HB.out)) hb); have n1_ := Q4 (hbox); have n2_ := Q4 ((by rw [hg]; exact bZ : w.heap.size ≤ gb103)); have n3_ := Q4 ((by rw [hg]; exact bZ : w.heap.size ≤ gb103)); clear HB; have HB := n0_; have BK103 := n1_; have GW103 := n2_; have GE103 := n3_; clear n0_ n1_ n2_ n3_; clear hb hbox hg; have hcz39_0 : w38.cell? ⟨gb103, 0, none⟩ = some (.string a0_0) := (Qe BK103.out 0).trans rfl; have hcz39_1 : w38.cell? ⟨gb103, 1, none⟩ = some (.int .i64 a0_1) := (Qe BK103.out 1).trans rfl; have hcz39_2 : w38.cell? ⟨gb103, 2, none⟩ = some (.int .i64 a0_2) := (Qe BK103.out 2).trans rfl; have hcz39_3 : w38.cell? ⟨gb103, 3, none⟩ = some (.int .i64 a0_3) := (Qe BK103.out 3).trans rfl; have hcz39_4 : w38.cell? ⟨gb103, 4, none⟩ = some (.int .i64 a0_4) := (Qe BK103.out 4).trans rfl; have hcz39_5 : w38.cell? ⟨gb103, 5, none⟩ = some (.int .i32 a0_5) := (Qe BK103.out 5).trans rfl; have hcz39_6 : w38.cell? ⟨gb103, 6, none⟩ = some (.string a0_6) := (Qe BK103.out 6).trans rfl; have hfz39_0 := Qd BK103.out 0; have hfz39_1 := Qd BK103.out 1; have hfz39_2 := Qd BK103.out 2; have hfz39_3 := Qd BK103.out 3; have hfz39_4 := Qd BK103.out 4; have hfz39_5 := Qd BK103.out 5; have hfz39_6 := Qd BK103.out 6)|((with_reducible refine gate_callee (f := 40) rfl ?_); refine gL (some 20) Tryz.func40 #[.agg #[.int .i64 a0_1, .int .i64 a0_2, .int .i64 a0_3, .int .i64 a0_4, .int .i32 a0_5]] ?_; (with_reducible refine (inst_Fit.calls a0_1 a0_2 a0_3 a0_4 a0_5 false _ A3.out).mono ?_); rintro e w40 ⟨rfl, hb⟩; refine ⟨_, rfl, ?_⟩; have n0_ := Q4 (Qo (g := gb103) (o := .cells #[.string a0_0, .int .i64 a0_1, .int .i64 a0_2, .int .i64 a0_3, .int .i64 a0_4, .int .i32 a0_5, .string a0_6] 40 (0, 0)) (bK BK103) hb); have n1_ := Q4 (Qg (by repeat (first|(with_reducible first|exact HB.out|apply Q8|apply Q5|apply Q9|refine Q6 ?_ GE103.out)|exact HB.out)) hb); clear BK103; clear HB; have BK103 := n0_; have HB := n1_; clear n0_ n1_;(try clear hb);(try clear hb2);(try clear hk);(try clear hi)))
   go_ret
   exact ⟨by first|rfl|(simp [errW_none, errW_some] <;> rfl)|(simp [*, errW_none, errW_some] <;> rfl), by repeat (first|(with_reducible first|exact HB.out|apply Q8|apply Q5|apply Q9|refine Q6 ?_ GE103.out)|exact HB.out)⟩
 ·rw [if_neg c2] at H
  have c2b0 : (a0_0.toList == ([] : List UInt8)) = false := Qk c2
  have c2b1 : (a0_0.toList != ([] : List UInt8)) = true := Ql c2
  replace H := Qi H
  obtain ⟨t107, A410, H⟩ := H
  try dsimp only at H
  have A41 := Q4 A410
  clear A410
  by_cases c42 : t107 = true
  ·subst c42
   rw [if_pos rfl] at H
   obtain rfl := Qn H
   go_enter Tryz.func17, Tryz.ntmps17
   go_wp2_with (first|((with_reducible refine gate_dst (N := 1) rfl ?_); refine box_event ?hg (N := 1) ?hd (cs := #[.string a0_0, .int .i64 a0_1, .int .i64 a0_2, .int .i64 a0_3, .int .i64 a0_4, .int .i32 a0_5, .string a0_6]) (t := 40) ?hr ?_; (case hd => rfl); (case hg => rfl); (case hr => first|(go_simp; done)|(go_simp; rfl)); intro gb103 hg w43 hbox hb; have n0_ := Q4 (Qg (by repeat (first|(with_reducible first|exact HB.out|apply Q8|apply Q5|apply Q9)|exact HB.out)) hb); have n1_ := Q4 (hbox); have n2_ := Q4 ((by rw [hg]; exact bZ : w.heap.size ≤ gb103)); have n3_ := Q4 ((by rw [hg]; exact bZ : w.heap.size ≤ gb103)); clear HB; have HB := n0_; have BK103 := n1_; have GW103 := n2_; have GE103 := n3_; clear n0_ n1_ n2_ n3_; clear hb hbox hg; have hcz44_0 : w43.cell? ⟨gb103, 0, none⟩ = some (.string a0_0) := (Qe BK103.out 0).trans rfl; have hcz44_1 : w43.cell? ⟨gb103, 1, none⟩ = some (.int .i64 a0_1) := (Qe BK103.out 1).trans rfl; have hcz44_2 : w43.cell? ⟨gb103, 2, none⟩ = some (.int .i64 a0_2) := (Qe BK103.out 2).trans rfl; have hcz44_3 : w43.cell? ⟨gb103, 3, none⟩ = some (.int .i64 a0_3) := (Qe BK103.out 3).trans rfl; have hcz44_4 : w43.cell? ⟨gb103, 4, none⟩ = some (.int .i64 a0_4) := (Qe BK103.out 4).trans rfl; have hcz44_5 : w43.cell? ⟨gb103, 5, none⟩ = some (.int .i32 a0_5) := (Qe BK103.out 5).trans rfl; have hcz44_6 : w43.cell? ⟨gb103, 6, none⟩ = some (.string a0_6) := (Qe BK103.out 6).trans rfl; have hfz44_0 := Qd BK103.out 0; have hfz44_1 := Qd BK103.out 1; have hfz44_2 := Qd BK103.out 2; have hfz44_3 := Qd BK103.out 3; have hfz44_4 := Qd BK103.out 4; have hfz44_5 := Qd BK103.out 5; have hfz44_6 := Qd BK103.out 6)|((with_reducible refine gate_callee (f := 28) rfl ?_); refine gL (some 9) Tryz.func28 #[.string a0_0] ?_; (with_reducible refine (asm_named.calls a0_0 true _ A41.out).mono ?_); rintro e w45 ⟨rfl, hb⟩; refine ⟨_, rfl, ?_⟩; have n0_ := Q4 (Qo (g := gb103) (o := .cells #[.string a0_0, .int .i64 a0_1, .int .i64 a0_2, .int .i64 a0_3, .int .i64 a0_4, .int .i32 a0_5, .string a0_6] 40 (0, 0)) (bK BK103) hb); have n1_ := Q4 (Qg (by repeat (first|(with_reducible first|exact HB.out|apply Q8|apply Q5|apply Q9|refine Q6 ?_ GE103.out)|exact HB.out)) hb); clear BK103; clear HB; have BK103 := n0_; have HB := n1_; clear n0_ n1_;(try clear hb);(try clear hb2);(try clear hk);(try clear hi); have hcz46_0 : w45.cell? ⟨gb103, 0, none⟩ = some (.string a0_0) := (Qe BK103.out 0).trans rfl; have hcz46_1 : w45.cell? ⟨gb103, 1, none⟩ = some (.int .i64 a0_1) := (Qe BK103.out 1).trans rfl; have hcz46_2 : w45.cell? ⟨gb103, 2, none⟩ = some (.int .i64 a0_2) := (Qe BK103.out 2).trans rfl; have hcz46_3 : w45.cell? ⟨gb103, 3, none⟩ = some (.int .i64 a0_3) := (Qe BK103.out 3).trans rfl; have hcz46_4 : w45.cell? ⟨gb103, 4, none⟩ = some (.int .i64 a0_4) := (Qe BK103.out 4).trans rfl; have hcz46_5 : w45.cell? ⟨gb103, 5, none⟩ = some (.int .i32 a0_5) := (Qe BK103.out 5).trans rfl; have hcz46_6 : w45.cell? ⟨gb103, 6, none⟩ = some (.string a0_6) := (Qe BK103.out 6).trans rfl; have hfz46_0 := Qd BK103.out 0; have hfz46_1 := Qd BK103.out 1; have hfz46_2 := Qd BK103.out 2; have hfz46_3 := Qd BK103.out 3; have hfz46_4 := Qd BK103.out 4; have hfz46_5 := Qd BK103.out 5; have hfz46_6 := Qd BK103.out 6))
   go_ret
   exact ⟨by first|rfl|(simp [errW_none, errW_some] <;> rfl)|(simp [*, errW_none, errW_some] <;> rfl), by repeat (first|(with_reducible first|exact HB.out|apply Q8|apply Q5|apply Q9|refine Q6 ?_ GE103.out)|exact HB.out)⟩
  ·replace c42 := Bool.eq_false_iff.mpr c42
   subst c42
   rw [if_neg (show ¬ (false = true) by decide)] at H
   obtain rfl := Qn H
   go_enter Tryz.func17, Tryz.ntmps17
   go_wp2_with (first|((with_reducible refine gate_dst (N := 1) rfl ?_); refine box_event ?hg (N := 1) ?hd (cs := #[.string a0_0, .int .i64 a0_1, .int .i64 a0_2, .int .i64 a0_3, .int .i64 a0_4, .int .i32 a0_5, .string a0_6]) (t := 40) ?hr ?_; (case hd => rfl); (case hg => rfl); (case hr => first|(go_simp; done)|(go_simp; rfl)); intro gb103 hg w47 hbox hb; have n0_ := Q4 (Qg (by repeat (first|(with_reducible first|exact HB.out|apply Q8|apply Q5|apply Q9)|exact HB.out)) hb); have n1_ := Q4 (hbox); have n2_ := Q4 ((by rw [hg]; exact bZ : w.heap.size ≤ gb103)); have n3_ := Q4 ((by rw [hg]; exact bZ : w.heap.size ≤ gb103)); clear HB; have HB := n0_; have BK103 := n1_; have GW103 := n2_; have GE103 := n3_; clear n0_ n1_ n2_ n3_; clear hb hbox hg; have hcz48_0 : w47.cell? ⟨gb103, 0, none⟩ = some (.string a0_0) := (Qe BK103.out 0).trans rfl; have hcz48_1 : w47.cell? ⟨gb103, 1, none⟩ = some (.int .i64 a0_1) := (Qe BK103.out 1).trans rfl; have hcz48_2 : w47.cell? ⟨gb103, 2, none⟩ = some (.int .i64 a0_2) := (Qe BK103.out 2).trans rfl; have hcz48_3 : w47.cell? ⟨gb103, 3, none⟩ = some (.int .i64 a0_3) := (Qe BK103.out 3).trans rfl; have hcz48_4 : w47.cell? ⟨gb103, 4, none⟩ = some (.int .i64 a0_4) := (Qe BK103.out 4).trans rfl; have hcz48_5 : w47.cell? ⟨gb103, 5, none⟩ = some (.int .i32 a0_5) := (Qe BK103.out 5).trans rfl; have hcz48_6 : w47.cell? ⟨gb103, 6, none⟩ = some (.string a0_6) := (Qe BK103.out 6).trans rfl; have hfz48_0 := Qd BK103.out 0; have hfz48_1 := Qd BK103.out 1; have hfz48_2 := Qd BK103.out 2; have hfz48_3 := Qd BK103.out 3; have hfz48_4 := Qd BK103.out 4; have hfz48_5 := Qd BK103.out 5; have hfz48_6 := Qd BK103.out 6)|((with_reducible refine gate_callee (f := 28) rfl ?_); refine gL (some 9) Tryz.func28 #[.string a0_0] ?_; (with_reducible refine (asm_named.calls a0_0 false _ A41.out).mono ?_); rintro e w49 ⟨rfl, hb⟩; refine ⟨_, rfl, ?_⟩; have n0_ := Q4 (Qo (g := gb103) (o := .cells #[.string a0_0, .int .i64 a0_1, .int .i64 a0_2, .int .i64 a0_3, .int .i64 a0_4, .int .i32 a0_5, .string a0_6] 40 (0, 0)) (bK BK103) hb); have n1_ := Q4 (Qg (by repeat (first|(with_reducible first|exact HB.out|apply Q8|apply Q5|apply Q9|refine Q6 ?_ GE103.out)|exact HB.out)) hb); clear BK103; clear HB; have BK103 := n0_; have HB := n1_; clear n0_ n1_;(try clear hb);(try clear hb2);(try clear hk);(try clear hi)))
   go_ret
   exact ⟨by first|rfl|(simp [errW_none, errW_some] <;> rfl)|(simp [*, errW_none, errW_some] <;> rfl), by repeat (first|(with_reducible first|exact HB.out|apply Q8|apply Q5|apply Q9|refine Q6 ?_ GE103.out)|exact HB.out)⟩

end Go.Proofs.YtbelnkdbghggmaaGreatDoor.X
namespace Go.Proofs.YtbelnkdbghggmaaGreatDoor.X
open Go.RowKit Go.Shelf Go.Proofs.YtbelnkdbghggmaaGreatDoorW.PrintWords Go.Proofs.YtbelnkdbghggmaaGreatDoorW.PrintLast
attribute [local go_sem] Oper.semAt_some
set_option linter.unusedVariables false
set_option linter.unusedSimpArgs false
/-- What a round keeps: all that lay below n₀, and each block of cells but those of R and rows of words; of a line's the first cell. -/
def KeepT (n₀ : Nat) (R : Nat → Prop) (A B : World) : Prop := Below n₀ A B ∧ ∀ (i : Nat) (cs : Array Value) (t : TypeId) (fr : Nat × Nat), ¬ R i → t ≠ 63 → A.heap[i]? = some (.cells cs t fr) → ∃ cs', B.heap[i]? = some (.cells cs' t fr) ∧ cs'[0]? = cs[0]? ∧ (t ≠ 40 → cs' = cs)
theorem KeepT.of_same {n₀ : Nat} {R : Nat → Prop} {A B : World} (h : Below n₀ A B) (k : ∀ (i : Nat) (cs : Array Value) (t : TypeId) (fr : Nat × Nat), ¬ R i → t ≠ 63 → A.heap[i]? = some (.cells cs t fr) → B.heap[i]? = some (.cells cs t fr)) : KeepT n₀ R A B := ⟨h, fun i cs t fr hi ht ho => ⟨cs, k i cs t fr hi ht ho, rfl, fun _ => rfl⟩⟩
theorem KeepT.refl (n₀ : Nat) (R : Nat → Prop) (A : World) : KeepT n₀ R A A := KeepT.of_same (Below.refl _ _) fun _ _ _ _ _ _ h => h
theorem KeepT.trans {n₀ : Nat} {R : Nat → Prop} {A B C : World} (h : KeepT n₀ R A B) (k : KeepT n₀ R B C) : KeepT n₀ R A C := ⟨h.1.trans k.1, fun i cs t fr hi ht ho => by
  obtain ⟨c1, h1, h2, h3⟩ := h.2 i cs t fr hi ht ho
  obtain ⟨c2, k1, k2, k3⟩ := k.2 i c1 t fr hi ht h1
  exact ⟨c2, k1, k2.trans h2, fun hn => (k3 hn).trans (h3 hn)⟩⟩
theorem KeepT.putObj {n₀ : Nat} {R : Nat → Prop} {w : World} (hn : n₀ ≤ w.heap.size) (W : World) (l : Nat) (o o' : Obj) (hl : w.heap.size ≤ l) (h : W.heap[l]? = some o) (h1 : o.isCells = false) (h2 : o.isWalk = false) : KeepT n₀ R W (W.putObj l o') :=
  KeepT.of_same (belowK_b hn W l o o' hl h h1 h2) fun i cs t fr _ _ ho => (World.putObj_heap_other (fun e => by subst e; rw [h] at ho; injection ho with ho; rw [ho] at h1; cases h1)).trans ho
theorem KeepT.of_below {n₀ : Nat} {R : Nat → Prop} {A B : World} (h : Below A.heap.size A B) (hn : n₀ ≤ A.heap.size) : KeepT n₀ R A B := KeepT.of_same (h.mono hn) fun i cs t fr _ _ ho => (h.block i (Array.getElem?_eq_some_iff.1 ho).1).trans ho
theorem KeepT.set {n₀ : Nat} {R : Nat → Prop} (W : World) (b o : Nat) (v : Value) (h : n₀ ≤ b) (hR : R b) : KeepT n₀ R W (W.setCell ⟨b, o, none⟩ v) :=
  KeepT.of_same ((Below.refl n₀ W).setCell (p := ⟨b, o, none⟩) h _) fun i cs t fr hi _ ho => (Below.heap_setCell _ _ _ _ (fun e => hi (by rw [e]; exact hR))).trans ho
/-- A line's further cells may be written. -/
theorem KeepT.setLine {n₀ : Nat} {R : Nat → Prop} (W : World) (b j : Nat) (v : Value) (h : n₀ ≤ b) {cs0 : Array Value} (hb : W.heap[b]? = some (.cells cs0 40 (0, 0))) (h0 : 0 < j) (hj : j < cs0.size) : KeepT n₀ R W (W.setCell ⟨b, j, none⟩ v) :=
  ⟨(Below.refl n₀ W).setCell (p := ⟨b, j, none⟩) h _, fun i cs t fr hi _ ho => by
    by_cases e : i = b
    · subst e
      rw [hb] at ho
      cases ho
      have := blk_put hb j v rfl
      exact ⟨_, this, by simp [Array.getElem?_setIfInBounds]; omega, fun hn => absurd rfl hn⟩
    · exact ⟨cs, (Below.heap_setCell _ _ _ _ e).trans ho, rfl, fun _ => rfl⟩⟩
/-- A line's cells. -/
def lineC (x : S40) : Array Value := #[.string x.f0, .int .i64 x.f1.f0, .int .i64 x.f1.f1, .int .i64 x.f1.f2, .int .i64 x.f1.f3, .int .i32 x.f1.f4, .string x.f2]
/-- How many lines are no marks. -/
def isMark (x : S40) : Bool := decide (0 < x.f0.size)
def cnt : List S40 → Nat
  | [] => 0
  | x :: r => (if isMark x then 0 else 1) + cnt r
theorem cnt_append (a b : List S40) : cnt (a ++ b) = cnt a + cnt b := by
  induction a with
  | nil => simp [cnt]
  | cons x r ih => simp only [List.cons_append, cnt, ih]; omega
theorem cnt_le (l : List S40) : cnt l ≤ l.length := by
  induction l with
  | nil => simp [cnt]
  | cons x r ih => simp only [cnt, List.length_cons]; split <;> omega
/-- Lines, each with its place. -/
def placedL : List S40 → Nat → List (Int × S40)
  | [], _ => []
  | x :: r, k => ((k : Int), x) :: placedL r (if isMark x then k else k + 1)
theorem placedL_append (a b : List S40) (k : Nat) : placedL (a ++ b) k = placedL a k ++ placedL b (k + cnt a) := by
  induction a generalizing k with
  | nil => simp [placedL, cnt]
  | cons x r ih =>
    simp only [List.cons_append, placedL, ih, cnt]
    split <;> simp [Nat.add_assoc]
theorem placedL_length (l : List S40) (k : Nat) : (placedL l k).length = l.length := by
  induction l generalizing k with
  | nil => rfl
  | cons x r ih => simp [placedL, ih]
def come (l : List S40) (k : Nat) : List (Int × S40) := placedL (l.take k) 0
theorem come_succ (l : List S40) (k : Nat) (hk : k < l.length) : come l (k + 1) = come l k ++ [(((cnt (l.take k) : Nat) : Int), rd_T40 l (k : Int))] := by
  have e : l.take (k + 1) = l.take k ++ [l[k]] := by rw [List.take_succ_eq_append_getElem hk]
  have e2 : rd_T40 l (k : Int) = l[k] := by simp [rd_T40, List.getD_eq_getElem?_getD, hk]
  unfold come
  rw [e, placedL_append, e2, Nat.zero_add]
  simp [placedL]
theorem cnt_succ (l : List S40) (k : Nat) (hk : k < l.length) : cnt (l.take (k + 1)) = cnt (l.take k) + (if isMark (rd_T40 l (k : Int)) then 0 else 1) := by
  have e : l.take (k + 1) = l.take k ++ [l[k]] := by rw [List.take_succ_eq_append_getElem hk]
  have e2 : rd_T40 l (k : Int) = l[k] := by simp [rd_T40, List.getD_eq_getElem?_getD, hk]
  rw [e, cnt_append, e2]
  simp [cnt]
theorem come_all (l : List S40) : come l l.length = placedL l 0 := by simp [come]
theorem come_prefix (l : List S40) (k : Nat) : come l k <+: placedL l 0 := by
  refine ⟨placedL (l.drop k) (0 + cnt (l.take k)), ?_⟩
  unfold come
  rw [← placedL_append, List.take_append_drop]
theorem come_length (l : List S40) (k : Nat) (hk : k ≤ l.length) : (come l k).length = k := by
  unfold come
  rw [placedL_length]
  simp; omega
theorem mark_iff (s : ByteArray) : (s.toList = []) ↔ s.size = 0 := by
  have hl : s.toList.length = s.size := by rw [ByteArray.toList_eq]; exact data_length s
  rw [← hl]
  exact List.length_eq_zero_iff.symm
theorem placed_calls (A : Option Addr) (n c : Nat) (w : World) : Calls Tryz.prog 48 #[.slice A n c] w fun e w' => e = .returned (.func (.func 67) #[] #[.pointer (some ⟨w.heap.size, 0, none⟩)]) ∧ w' = w.alloc (.cells #[.slice A n c] 23) := by
  go_enter Tryz.func48, Tryz.ntmps48
  go_wp2
  go_ret
  exact ⟨rfl, rfl⟩
set_option maxRecDepth 100000 in
set_option maxHeartbeats 8000000 in
theorem placed1_in (n : Nat) (hn : 1 ≤ n) (l Bl c : Nat) (n₀ : Nat) (R : Nat → Prop) (A : Option Addr) (xs : List S40) (w0 : World)
    (hr : Kd.C k40 w0 A xs.length xs) (hn0 : w0.heap.size = n₀)
    (J Jx : List (Int × S40) → World → Prop) (W : World) (hW0 : Below n₀ w0 W)
    (hJ : ∀ pre A B, J pre A → Below A.heap.size A B → J pre B)
    (hY : ∀ pre (x : Int × S40) W1, x ∈ placedL xs 0 → J pre W1 → pre.length < xs.length → YieldAt Fence.wide (n - 1) Tryz.prog l #[.int .i64 x.1, .agg (lineC x.2)] W1 fun e W' =>
      (e = .returned (.bool true) ∧ J (pre ++ [x]) W' ∧ KeepT n₀ R W1 W') ∨ (e = .returned (.bool false) ∧ Jx (pre ++ [x]) W'))
    (hBl : W.heap[Bl]? = some (.cells #[.slice A xs.length c] 23 (0, 0))) (hnR : ¬ R Bl) (hRW : ∀ i, R i → i < W.heap.size) (h0 : J [] W) :
    CallsIn Fence.wide n Tryz.prog 67 #[.func (.yield l) #[] #[], .pointer (some ⟨Bl, 0, none⟩)] W fun e W' => (∃ v, e = .returned v) ∧
      ((∃ ys, ys = placedL xs 0 ∧ J ys W') ∨ (∃ pre, pre <+: placedL xs 0 ∧ Jx pre W')) := by
  have hmax : xs.length ≤ 9223372036854775807 := hr.2.1
  have hbc := blk_cell hBl 0
  simp only [List.getElem?_toArray, List.getElem?_cons_zero] at hbc
  refine callsIn_of_wp Tryz.func67 rfl trivial ?_ rfl
  simp only [Tryz.ntmps67, List.size_toArray, List.length_cons, List.length_nil, Nat.reduceAdd, Nat.reduceSub, Array.replicate_succ, Array.replicate_zero, List.push_toArray, List.append_toArray, List.nil_append, List.cons_append]
  gi_wp2
  gi_loopw [3, 8] (fun a i wr => ∃ k : Nat, k ≤ xs.length ∧ i = .int .i64 k ∧ a = .int .i64 (cnt (xs.take k)) ∧ J (come xs k) wr ∧ KeepT n₀ R W wr ∧ W.heap.size ≤ wr.heap.size) (fun _ i _ => xs.length - (intOf i).toNat)
  case atStart => exact ⟨0, Nat.zero_le _, rfl, by simp [cnt], h0, KeepT.refl _ _ _, Nat.le_refl _⟩
  case round =>
    obtain ⟨k, hk, rfl, rfl, hJs, hkb, hsz⟩ := hrel
    by_cases hlt : k < xs.length
    · have hrW : Kd.C k40 wr A xs.length xs := Kd.C_below hr (hn0 ▸ hW0.trans hkb.1)
      obtain ⟨ad, e1, hx0, hx1, hx2, hx3, hx4, hx5, hx6⟩ := at_T40 hrW (k : Int) (by omega) (by omega)
      cases e1
      simp only [Int.toNat_natCast] at hx0 hx1 hx2 hx3 hx4 hx5 hx6
      have hcs := come_succ xs k hlt
      have hct := cnt_succ xs k hlt
      have hcl := cnt_le (xs.take k)
      have hlen := come_length xs k hk
      rw [List.length_take] at hcl
      have hy0 := hY (come xs k) (((cnt (xs.take k) : Nat) : Int), rd_T40 xs (k : Int)) (wr.alloc (.cells (lineC (rd_T40 xs (k : Int))) 40)) ((come_prefix xs (k + 1)).subset (by rw [hcs]; simp)) (hJ _ _ _ hJs ((Below.refl _ wr).alloc (Nat.le_refl _) _)) (by omega)
      have hpre := come_prefix xs (k + 1)
      rw [← hcs] at hy0
      have hmi := mark_iff (rd_T40 xs (k : Int)).f0
      have hmk : isMark (rd_T40 xs (k : Int)) = decide (0 < (rd_T40 xs (k : Int)).f0.size) := rfl
      have hn1 : cnt (xs.take k) ≤ k := by omega
      clear hcl
      unfold lineC at hy0
      generalize rd_T40 xs (k : Int) = x at *
      generalize cnt (xs.take k) = q at *
      generalize hq1 : cnt (xs.take (k + 1)) = q1 at *
      generalize hp1 : come xs (k + 1) = pre1 at *
      have HQ1 := Lib.hid hq1
      have HP1 := Lib.hid hp1
      clear hq1 hp1
      have HP := Lib.hid hpre
      have HCT := Lib.hid hct
      have HMK := Lib.hid hmk
      have HKB := Lib.hid hkb
      clear hpre hct hmk hcs hkb hlen hJs hr hrW hbc
      obtain ⟨fn, tmps, assign, body, hy, hR⟩ := hy0
      gi_wp2
      refine hR.mono ?_
      have hbx := blk_new wr (.cells #[.string x.f0, .int .i64 x.f1.f0, .int .i64 x.f1.f1, .int .i64 x.f1.f2, .int .i64 x.f1.f3, .int .i32 x.f1.f4, .string x.f2] 40)
      have hnb : ¬ R wr.heap.size := fun h => by have := hRW _ h; omega
      rintro e_ W3 (⟨rfl, hJ3, hk3⟩ | ⟨rfl, hJx3⟩)
      · obtain ⟨cs3, hb3, hcs3, _⟩ := hk3.2 _ _ _ _ hnb (by decide) hbx
        have hc3 := blk_cell hb3 0
        rw [hcs3] at hc3
        simp only [List.getElem?_toArray, List.getElem?_cons_zero] at hc3
        have hs3 := hk3.1
        have hz3 : wr.heap.size < W3.heap.size := (Array.getElem?_eq_some_iff.1 hb3).1
        have hall : KeepT n₀ R W W3 := (HKB.out.trans (KeepT.of_below (below_alloc (Below.refl _ wr) _) (by have := hW0.size; omega))).trans hk3
        have HALL := Lib.hid hall
        clear hall hk3 hs3 hb3 hbx
        by_cases hm : x.f0.toList = []
        · have hm2 : x.f0.toList.isEmpty = true := by rw [hm]; rfl
          have hz : x.f0.size = 0 := hmi.1 hm
          have HCT2 : Hid (q1 = q + 1) := Lib.hid (by rw [HCT.out, HMK.out, hz]; rfl)
          clear hmi hz
          gi_wp2
          go_roundw
          case rel => exact ⟨k + 1, by omega, by go_num, by rw [HQ1.out, HCT2.out]; go_num, by rw [HP1.out]; exact hJ3, HALL.out, by omega⟩
          case measure => simp [intOf]; omega
        · have hm2 : x.f0.toList.isEmpty = false := by cases e : x.f0.toList with | nil => exact absurd e hm | cons a b => rfl
          have hz : ¬ x.f0.size = 0 := fun h => hm (hmi.2 h)
          have HCT2 : Hid (q1 = q) := Lib.hid (by rw [HCT.out, HMK.out, decide_eq_true (by omega)]; rfl)
          clear hmi hz
          gi_wp2
          go_roundw
          case rel => exact ⟨k + 1, by omega, by go_num, by rw [HQ1.out, HCT2.out], by rw [HP1.out]; exact hJ3, HALL.out, by omega⟩
          case measure => simp [intOf]; omega
      · gi_wp2
        refine bodyPost_ret (results_none rfl _ _ _) rfl ?_
        exact ⟨⟨_, rfl⟩, .inr ⟨_, HP.out, hJx3⟩⟩
    · obtain rfl : k = xs.length := by omega
      have hca := come_all xs
      gi_wp2
      go_end0
      exact ⟨⟨_, rfl⟩, .inl ⟨_, hca, hJs⟩⟩
theorem placed_stops (n : Nat) (hn : 1 ≤ n) (Bl c n₀ : Nat) (R : Nat → Prop) (A : Option Addr) (xs : List S40) (w0 w : World)
    (hr : Kd.C k40 w0 A xs.length xs) (hn0 : w0.heap.size = n₀) (hw : Below n₀ w0 w)
    (hBl : w.heap[Bl]? = some (.cells #[.slice A xs.length c] 23 (0, 0))) (hnR : ¬ R Bl) (hRW : ∀ i, R i → i < w.heap.size) :
    SeqStopsK Fence.wide n Tryz.prog 67 #[.pointer (some ⟨Bl, 0, none⟩)] (fun x : Int × S40 => #[.int .i64 x.1, .agg (lineC x.2)]) (KeepT n₀ R) (fun ys => ys = placedL xs 0) (fun pre => pre <+: placedL xs 0) xs.length w := fun l J Jx W hW hJ hJx hY h0 =>
  placed1_in n hn l Bl c n₀ R A xs w0 hr hn0 J Jx W (hw.trans (hW.mono (by have := hw.size; omega))) (fun pre A B hj hb => hJ pre A B none hj (grown_of_below hb none) (fun r e => by cases e)) (fun pre x W1 _ => hY pre x W1) (blk_below hBl hW) hnR (fun i h => Nat.lt_of_lt_of_le (hRW i h) hW.size) h0
/-- The same, where each element is known to be G. -/
theorem placed_stopsG (G : Int × S40 → Prop) (n : Nat) (hn : 1 ≤ n) (Bl c n₀ : Nat) (R : Nat → Prop) (A : Option Addr) (xs : List S40) (w0 w : World)
    (hr : Kd.C k40 w0 A xs.length xs) (hn0 : w0.heap.size = n₀) (hw : Below n₀ w0 w) (hG : ∀ p ∈ placedL xs 0, G p)
    (hBl : w.heap[Bl]? = some (.cells #[.slice A xs.length c] 23 (0, 0))) (hnR : ¬ R Bl) (hRW : ∀ i, R i → i < w.heap.size) :
    SeqStopsK Fence.wide n Tryz.prog 67 #[.pointer (some ⟨Bl, 0, none⟩)] (fun x : {p : Int × S40 // G p} => #[.int .i64 x.1.1, .agg (lineC x.1.2)]) (KeepT n₀ R) (fun ys => ys.map (·.1) = placedL xs 0) (fun pre => pre.map (·.1) <+: placedL xs 0) xs.length w := fun l J Jx W hW hJ hJx hY h0 => by
  refine (placed1_in n hn l Bl c n₀ R A xs w0 hr hn0 (fun pre W => ∃ q : List {p : Int × S40 // G p}, q.map (·.1) = pre ∧ J q W) (fun pre W => ∃ q : List {p : Int × S40 // G p}, q.map (·.1) = pre ∧ Jx q W) W (hw.trans (hW.mono (by have := hw.size; omega)))
    (fun pre A B hj hb => (let ⟨q, h1, h2⟩ := hj; ⟨q, h1, hJ q A B none h2 (grown_of_below hb none) (fun r e => by cases e)⟩)) ?_ (blk_below hBl hW) hnR (fun i h => Nat.lt_of_lt_of_le (hRW i h) hW.size) ⟨[], rfl, h0⟩).mono ?_
  · rintro pre x W1 hx ⟨q, rfl, hj⟩ hl
    obtain ⟨fn, tmps, assign, body, hy, hR⟩ := hY q ⟨x, hG x hx⟩ W1 hj (by simpa using hl)
    refine ⟨fn, tmps, assign, body, hy, hR.mono ?_⟩
    rintro e W' (⟨h1, h2, h3⟩ | ⟨h1, h2⟩)
    · exact .inl ⟨h1, ⟨_, by simp, h2⟩, h3⟩
    · exact .inr ⟨h1, _, by simp, h2⟩
  · rintro e W' ⟨hv, ⟨ys, h1, q, h2, h3⟩ | ⟨pre, h1, q, h2, h3⟩⟩
    · exact ⟨hv, .inl ⟨q, h2.trans h1, h3⟩⟩
    · exact ⟨hv, .inr ⟨q, by rw [← h2] at h1; exact h1, h3⟩⟩
end Go.Proofs.YtbelnkdbghggmaaGreatDoor.X
namespace Go.Proofs.YtbelnkdbghggmaaGreatDoor.Mp
open Go.RowKit Go.Proofs.YtbelnkdbghggmaaGreatDoorW.PrintWords
set_option linter.unusedVariables false
set_option linter.unusedSimpArgs false
set_option linter.unusedSectionVars false

/-- Where a key stands, and its value. -/
def findL {K E : Type} [DecidableEq K] (k : K) : List (K × E) → Nat → Option (Nat × E)
  | [], _ => none
  | (a, v) :: r, i => if k = a then some (i, v) else findL k r (i + 1)
/-- A row with a key's value. -/
def putL {K E : Type} [DecidableEq K] (k : K) (v : E) : List (K × E) → List (K × E)
  | [] => [(k, v)]
  | (a, u) :: r => if k = a then (a, v) :: r else (a, u) :: putL k v r
def getL {K E : Type} [DecidableEq K] (k : K) (z : E) : List (K × E) → E
  | [] => z
  | (a, u) :: r => if k = a then u else getL k z r
section
variable {K E : Type} [DecidableEq K] {encK : K → Value} {encE : E → Value} {P : Program}
/-- Block r is a map that holds m. -/
def Is (encK : K → Value) (encE : E → Value) (W : World) (r : Nat) (m : List (K × E)) : Prop :=
  ∃ es clock, W.heap[r]? = some (.map es clock) ∧ es.toList.map (fun e => (e.key, e.val)) = m.map (fun x => (encK x.1, encE x.2))
/-- A key type whose keys' runs are told. -/
structure Key (P : Program) (kt : TypeId) (encK : K → Value) : Prop where
  eq : ∀ (w : World) (a b : K), (Op.equal kt (encK a) (encK b)).run P w = .ok (decide (a = b)) w
  check : ∀ (w : World) (e : Bool) (a : K), (Instr.checkKey e 10000 kt (encK a)).run P w = .ok () w
  under : ∃ d, P.underlying kt = some d ∧ ∀ a b : K, Instr.sameNow d (encK a) (encK b) = none ∨ Instr.sameNow d (encK a) (encK b) = some (decide (a = b))
  bits : ∀ a : K, Instr.sameBits 10000 (encK a) (encK a) = true
theorem Is.mk_new (W : World) : Is (K := K) (E := E) encK encE (W.alloc (.map #[] 0)) W.heap.size [] := ⟨#[], 0, World.alloc_heap_new W _, rfl⟩
theorem Is.lt {W : World} {r : Nat} {m : List (K × E)} (h : Is encK encE W r m) : r < W.heap.size := by
  obtain ⟨es, c, hh, _⟩ := h
  exact (Array.getElem?_eq_some_iff.1 hh).1
theorem Is.step {W W' : World} {r : Nat} {m : List (K × E)} (h : Is encK encE W r m) (hb : W'.heap[r]? = W.heap[r]?) : Is encK encE W' r m := by
  obtain ⟨es, c, hh, hm⟩ := h
  exact ⟨es, c, hb.trans hh, hm⟩
theorem Is.below {W W' : World} {r : Nat} {m : List (K × E)} (h : Is encK encE W r m) (hb : Below W.heap.size W W') : Is encK encE W' r m := h.step (hb.block r h.lt)
theorem findAsking_run {kt : TypeId} (H : Key P kt encK) (w : World) (k : K) : ∀ (es : List MapEntry) (m : List (K × E)) (i : Nat), es.map (fun e => (e.key, e.val)) = m.map (fun x => (encK x.1, encE x.2)) →
    (Instr.findAsking kt (encK k) es i).run P w = .ok ((findL k m i).map fun x => (x.1, encE x.2)) w
  | [], [], i, _ => by simp [Instr.findAsking, findL]
  | [], _ :: _, i, h => by simp at h
  | _ :: _, [], i, h => by simp at h
  | e :: es, (a, v) :: m, i, h => by
    simp only [List.map_cons, List.cons.injEq, Prod.mk.injEq] at h
    obtain ⟨⟨hk, hv⟩, hr⟩ := h
    rw [Instr.findAsking]
    simp only [Sem.run_bind, hk, H.eq, Result.andThen_ok, findL]
    by_cases hka : k = a
    · simp [hka, hv]
    · simp [hka, findAsking_run H w k es m (i + 1) hr]
theorem findNow_run {d : TypeDesc} (k : K) (hd : ∀ a b : K, Instr.sameNow d (encK a) (encK b) = none ∨ Instr.sameNow d (encK a) (encK b) = some (decide (a = b))) : ∀ (es : List MapEntry) (m : List (K × E)) (i : Nat), es.map (fun e => (e.key, e.val)) = m.map (fun x => (encK x.1, encE x.2)) →
    Instr.findNow d (encK k) es i = none ∨ Instr.findNow d (encK k) es i = some ((findL k m i).map fun x => (x.1, encE x.2))
  | [], [], i, _ => .inr (by simp [Instr.findNow, findL])
  | [], _ :: _, i, h => by simp at h
  | _ :: _, [], i, h => by simp at h
  | e :: es, (a, v) :: m, i, h => by
    simp only [List.map_cons, List.cons.injEq, Prod.mk.injEq] at h
    obtain ⟨⟨hk, hv⟩, hr⟩ := h
    rw [Instr.findNow, hk]
    rcases hd k a with h1 | h1
    · left
      rw [h1]
    · rw [h1]
      by_cases hka : k = a
      · right
        simp [hka, hv, findL]
      · simp only [decide_eq_false hka, findL, if_neg hka]
        exact findNow_run k hd es m (i + 1) hr
theorem findKey_run {kt : TypeId} (H : Key P kt encK) (w : World) (k : K) (es : List MapEntry) (m : List (K × E)) (h : es.map (fun e => (e.key, e.val)) = m.map (fun x => (encK x.1, encE x.2))) :
    (Instr.findKey kt (encK k) es).run P w = .ok ((findL k m 0).map fun x => (x.1, encE x.2)) w := by
  obtain ⟨d, hd, hs⟩ := H.under
  unfold Instr.findKey
  simp only [Sem.run_bind, run_underlying hd, Result.andThen_ok]
  rcases findNow_run k hs es m 0 h with h1 | h1
  · rw [h1]
    exact findAsking_run H w k es m 0 h
  · rw [h1]
    simp
theorem findL_get (k : K) (z : E) : ∀ (m : List (K × E)) (i : Nat), getL k z m = match findL k m i with | some (_, v) => v | none => z
  | [], i => rfl
  | (a, v) :: m, i => by
    simp only [getL, findL]
    by_cases h : k = a
    · simp [h]
    · simp only [if_neg h]
      exact findL_get k z m (i + 1)
theorem findL_spec (k : K) (v : E) : ∀ (m : List (K × E)) (i : Nat), match findL k m i with
    | some (j, _) => i ≤ j ∧ j - i < m.length ∧ (m[j - i]?).map Prod.fst = some k ∧ putL k v m = m.set (j - i) (k, v)
    | none => putL k v m = m ++ [(k, v)]
  | [], i => by simp [findL, putL]
  | (a, u) :: m, i => by
    simp only [findL, putL]
    by_cases h : k = a
    · subst h
      simp
    · simp only [if_neg h]
      have ih := findL_spec k v m (i + 1)
      revert ih
      cases findL k m (i + 1) with
      | none => intro ih; simpa using ih
      | some x =>
        obtain ⟨j, w⟩ := x
        rintro ⟨h1, h2, h3, h4⟩
        have e : j - i = j - (i + 1) + 1 := by omega
        show i ≤ j ∧ j - i < ((a, u) :: m).length ∧ Option.map Prod.fst ((a, u) :: m)[j - i]? = some k ∧ (a, u) :: putL k v m = ((a, u) :: m).set (j - i) (k, v)
        rw [e]
        exact ⟨by omega, by simpa using h2, by simpa using h3, by simpa using h4⟩
end
end Go.Proofs.YtbelnkdbghggmaaGreatDoor.Mp
namespace Go.Proofs.YtbelnkdbghggmaaGreatDoor.Mp
open Go.RowKit Go.Proofs.YtbelnkdbghggmaaGreatDoorW.PrintWords
set_option linter.unusedVariables false
set_option linter.unusedSimpArgs false
section
variable {K E : Type} [DecidableEq K] {encK : K → Value} {encE : E → Value} {P : Program}
def hasL (k : K) : List (K × E) → Bool
  | [] => false
  | (a, _) :: r => if k = a then true else hasL k r
theorem findL_has (k : K) : ∀ (m : List (K × E)) (i : Nat), (findL k m i).isSome = hasL k m
  | [], i => rfl
  | (a, v) :: m, i => by
    simp only [findL, hasL]
    split
    · rfl
    · exact findL_has k m (i + 1)
/-- 'v, ok := m[k]'. -/
theorem lookup_ok_run {T kt et : TypeId} (hT : P.underlying T = some (.map kt et)) (H : Key P kt encK) {z : E} (hz : ∀ w, (zeroValue et).run P w = .ok (encE z) w) {W : World} {r : Nat} {m : List (K × E)} (h : Is encK encE W r m) (k : K) :
    (Instr.lookup T (.map (some r)) (encK k) true).run P W = .ok (.tuple #[encE (getL k z m), .bool (hasL k m)]) W := by
  obtain ⟨es, c, hh, hm⟩ := h
  unfold Instr.lookup
  simp only [Sem.run_bind, run_underlying hT, Result.andThen_ok]
  have hg : (getObj r).run P W = .ok (.map es c) W := by simp [getObj, Sem.run, hh]
  have hf := findKey_run H W k es.toList m hm
  rw [findL_get k z m 0, ← findL_has k m 0]
  cases hx : findL k m 0 with
  | none =>
    rw [hx] at hf
    simp [hg, H.check, hf, hz]
  | some x =>
    rw [hx] at hf
    simp [hg, H.check, hf]
end
theorem beqB (a b : ByteArray) : (a == b) = decide (a = b) := by
  cases a; cases b; rename_i x y
  show (x == y) = _
  rw [Bool.eq_iff_iff]
  simp
def encS (s : ByteArray) : Value := .string s
def encN (n : Int) : Value := .int .i64 n
theorem key9 : Key Tryz.prog 9 encS where
  eq w a b := by
    rw [← beqB]
    show (Op.equalIn (9999 + 1) 9 (.string a) (.string b)).run Tryz.prog w = .ok (a == b) w
    rw [Op.equalIn.eq_def]
    simp only [run_underlying Tryz.underlying9, Sem.run_bind, Result.andThen_ok]
    rfl
  check w e a := by kernel_rfl
  under := ⟨_, Tryz.underlying9, fun a b => by simp [Instr.sameNow, encS]; exact beqB a b⟩
  bits a := by simp [Instr.sameBits, encS]; rw [beqB]; simp
theorem zero3 (w : World) : (zeroValue 3).run Tryz.prog w = .ok (.int .i64 0) w := by kernel_rfl
end Go.Proofs.YtbelnkdbghggmaaGreatDoor.Mp
namespace Go.Proofs.YtbelnkdbghggmaaGreatDoor.X
open Go.RowKit Go.Proofs.YtbelnkdbghggmaaGreatDoorW.PrintWords Go.Proofs.YtbelnkdbghggmaaGreatDoorW.PrintLast
set_option linter.unusedVariables false
set_option linter.unusedSimpArgs false
/-- A line whose numbers and texts are as the model's. -/
def wfX (x : S40) : Prop := (-2147483648 ≤ x.f1.f4 ∧ x.f1.f4 ≤ 2147483647) ∧ x.f0.size ≤ 9223372036854775807 ∧ x.f2.size ≤ 9223372036854775807
def jumpsB (op : Int) : Bool := decide (op = 18) || decide (op = 19) || decide (op = 20) || decide (op = 21)
/-- Whether a line is one. -/
def goodB (x : S40) : Bool :=
  if x.f0.toList = ([] : List UInt8) then fitB x.f1.f0 x.f1.f1 x.f1.f2 x.f1.f3 x.f1.f4 && (decide (x.f2.toList = ([] : List UInt8)) || (namedB x.f2 && (decide (x.f1.f0 = 1) || (jumpsB x.f1.f0 && decide (x.f1.f4 = 0)))))
  else namedB x.f0 && ((x.f1.f0 == 0 && (x.f1.f1 == 0 && (x.f1.f2 == 0 && (x.f1.f3 == 0 && (x.f1.f4 == 0))))) && (x.f2.toList == ([] : List UInt8)))
theorem jumps_val (op : Int) : asm_jumps.f op = some (jumpsB op) := by
  unfold asm_jumps.f jumpsB
  by_cases h1 : op = 18 <;> by_cases h2 : op = 19 <;> by_cases h3 : op = 20 <;> by_cases h4 : op = 21 <;> simp [h1, h2, h3, h4]
theorem good_val (x : S40) (h : wfX x) : asm_good.f x.f0 x.f1.f0 x.f1.f1 x.f1.f2 x.f1.f3 x.f1.f4 x.f2 = some (goodB x) := by
  obtain ⟨he, h0, h2⟩ := h
  unfold asm_good.f goodB inst_Fit.f asm_named.f
  rw [if_pos he, if_pos h0, if_pos h2, jumps_val]
  simp only [Option.bind_some]
  by_cases hm : x.f0.toList = ([] : List UInt8)
  · rw [if_pos hm, if_pos hm]
    cases fitB x.f1.f0 x.f1.f1 x.f1.f2 x.f1.f3 x.f1.f4 with
    | false => rw [if_neg (by decide)]; rfl
    | true =>
      rw [if_pos rfl, Bool.true_and]
      by_cases ht : x.f2.toList = ([] : List UInt8)
      · rw [if_pos ht, decide_eq_true ht]; rfl
      · rw [if_neg ht, decide_eq_false ht, Bool.false_or]
        cases namedB x.f2 with
        | false => rw [if_neg (by decide)]; rfl
        | true =>
          rw [if_pos rfl, Bool.true_and]
          by_cases ho : x.f1.f0 = 1
          · rw [if_pos ho, decide_eq_true ho]; rfl
          · rw [if_neg ho, decide_eq_false ho, Bool.false_or]
            cases jumpsB x.f1.f0 with
            | false => rw [if_neg (by decide)]; rfl
            | true =>
              rw [if_pos rfl, Bool.true_and]
              by_cases hz : x.f1.f4 = 0 <;> simp [hz]
  · rw [if_neg hm, if_neg hm]
    cases namedB x.f0 with
    | false => rw [if_neg (by decide)]; rfl
    | true => rw [if_pos rfl]; rfl
theorem good_any (x : S40) (h : wfX x) (w : World) : Calls Tryz.prog 17 #[.agg (lineC x)] w fun e w' => e = .returned (.bool (goodB x)) ∧ Below w.heap.size w w' :=
  asm_good.calls _ _ _ _ _ _ _ _ w (good_val x h)
end Go.Proofs.YtbelnkdbghggmaaGreatDoor.X
namespace Go.Proofs.YtbelnkdbghggmaaGreatDoor.Mp
open Go.RowKit Go.Proofs.YtbelnkdbghggmaaGreatDoorW.PrintWords
set_option linter.unusedVariables false
set_option linter.unusedSimpArgs false
section
variable {K E : Type} [DecidableEq K] {encK : K → Value} {encE : E → Value} {P : Program}
/-- 'm[k] = v', in each world with this heap. -/
theorem mapUpdate_runs {T kt et : TypeId} (hT : P.underlying T = some (.map kt et)) (H : Key P kt encK) {W : World} {r : Nat} {m : List (K × E)} (h : Is encK encE W r m) (k : K) (v : E) :
    ∃ es clock, (∀ W' : World, W'.heap = W.heap → (Instr.mapUpdate T (.map (some r)) (encK k) (encE v)).run P W' = .ok () (W'.putObj r (.map es clock))) ∧ ∀ W' : World, W'.heap[r]? = some (.map es clock) → Is encK encE W' r (putL k v m) := by
  obtain ⟨es, c, hh, hm⟩ := h
  have hsp := findL_spec k v m 0
  unfold Instr.mapUpdate
  simp only [Sem.run_bind, run_underlying hT, Result.andThen_ok]
  have hg : ∀ W' : World, W'.heap = W.heap → (getObj r).run P W' = .ok (.map es c) W' := fun W' hW => by simp [getObj, Sem.run, hW, hh]
  have hset : ∀ (W' : World) (o : Obj), W'.heap = W.heap → (setObj r o).run P W' = .ok () (W'.putObj r o) := fun W' o hW => by simp [setObj, Sem.run, hW, hh, World.putObj]
  revert hsp
  cases hf : findL k m 0 with
  | none =>
    intro hsp
    refine ⟨es.push { key := encK k, val := encE v, born := c }, c + 1, fun W' hW => ?_, fun W' hW => ⟨_, _, hW, ?_⟩⟩
    · simp [hg W' hW, H.check, findKey_run H W' k es.toList m hm, hf, hset W' _ hW]
    · rw [hsp]
      simp [hm]
  | some x =>
    obtain ⟨j, u⟩ := x
    rintro ⟨_, hj, hk, hp⟩
    rw [Nat.sub_zero] at hj hk hp
    have hlen : es.size = m.length := by have := congrArg List.length hm; simpa using this
    have hes : es[j]? = some (es[j]'(by omega)) := Array.getElem?_eq_getElem (by omega)
    have hkey : (es[j]'(by omega)).key = encK k := by
      have h1 := congrArg (fun l => l[j]?) hm
      simp only [List.getElem?_map] at h1
      rw [Array.getElem?_toList, hes] at h1
      rw [List.getElem?_eq_getElem hj] at h1 hk
      simp only [Option.map_some, Option.some.injEq, Prod.mk.injEq] at h1 hk
      rw [h1.1, hk]
    refine ⟨es.modify j fun e => { e with key := encK k, val := encE v }, c, fun W' hW => ?_, fun W' hW => ⟨_, _, hW, ?_⟩⟩
    · simp [hg W' hW, H.check, findKey_run H W' k es.toList m hm, hf, hes, hkey, Instr.keyThatStays, H.bits, hset W' _ hW]
    · rw [hp]
      apply List.ext_getElem?
      intro i
      have h1 := congrArg (fun l => l[i]?) hm
      simp only [List.getElem?_map] at h1
      simp only [List.getElem?_map, Array.getElem?_toList, Array.getElem?_modify, List.getElem?_set]
      rw [Array.getElem?_toList] at h1
      by_cases hij : j = i
      · subst hij
        simp [hj, hes]
      · simp [hij, h1]
end
end Go.Proofs.YtbelnkdbghggmaaGreatDoor.Mp
namespace Go.Proofs.YtbelnkdbghggmaaGreatDoor.X
open Go.RowKit Go.Proofs.YtbelnkdbghggmaaGreatDoorW.PrintWords Go.Proofs.YtbelnkdbghggmaaGreatDoorW.PrintLast
set_option linter.unusedVariables false
set_option linter.unusedSimpArgs false
abbrev Marks := List (ByteArray × Int)
def numN (marks : Marks) (i : Int) (x : S40) : Int := if x.f1.f0 = 1 then Mp.getL x.f2 0 marks + x.f1.f4 else Mp.getL x.f2 0 marks - i - 1
def numR (marks : Marks) (i : Int) (x : S40) : Int × Int :=
  if Mp.hasL x.f2 marks = true then (if numN marks i x < -2147483648 ∨ 2147483647 < numN marks i x then (0, 13) else (numN marks i x, 0)) else (0, 1)
theorem Is.drewN {W : World} {r : Nat} {m : Marks} (h : Mp.Is Mp.encS Mp.encN W r m) (k : Nat) : Mp.Is Mp.encS Mp.encN (W.drewN k) r m := h.step rfl
set_option maxRecDepth 100000 in
set_option maxHeartbeats 8000000 in
theorem number_any (Bp M : Nat) (lv ov : Value) (marks : Marks) (i : Int) (x : S40) (w : World)
    (hp : w.heap[Bp]? = some (.cells #[lv, .map (some M), ov] 60 (0, 0))) (hM : Mp.Is Mp.encS Mp.encN w M marks)
    (hi : 0 ≤ i ∧ i ≤ 1099511627776) (ht : 0 ≤ Mp.getL x.f2 0 marks ∧ Mp.getL x.f2 0 marks ≤ 1099511627776) (he : -2147483648 ≤ x.f1.f4 ∧ x.f1.f4 ≤ 2147483647) :
    Calls Tryz.prog 49 #[.pointer (some ⟨Bp, 0, none⟩), .int .i64 i, .agg (lineC x)] w fun e w' => e = .returned (.tuple #[.int .i32 (numR marks i x).1, .int .i64 (numR marks i x).2]) ∧ Below w.heap.size w w' := by
  have hp1 := blk_alloc hp (.cells (lineC x) 40)
  have hM1 : Mp.Is Mp.encS Mp.encN (w.alloc (.cells (lineC x) 40)) M marks := hM.below ((Below.refl _ w).alloc (Nat.le_refl _) _)
  have hlk := fun k => Mp.lookup_ok_run Tryz.underlying58 Mp.key9 (encE := Mp.encN) Mp.zero3 (Is.drewN hM1 k) x.f2
  have hcm := blk_cell hp1 1
  have hnr : ∃ N, N = (if x.f1.f0 = 1 then Mp.getL x.f2 0 marks + x.f1.f4 else Mp.getL x.f2 0 marks - i - 1) ∧ numR marks i x = (if Mp.hasL x.f2 marks = true then (if N < -2147483648 ∨ 2147483647 < N then (0, 13) else (N, 0)) else (0, 1)) := ⟨_, rfl, rfl⟩
  obtain ⟨N, hN, hnr⟩ := hnr
  unfold Mp.encS Mp.encN at hlk
  simp only [List.getElem?_toArray, List.getElem?_cons_zero, List.getElem?_cons_succ] at hcm
  unfold lineC at *
  generalize Mp.getL x.f2 0 marks = tt at *
  generalize Mp.hasL x.f2 marks = has at *
  have HNR := Lib.hid hnr
  have HN := Lib.hid hN
  have hlk0 := hlk 0
  rw [World.drewN_zero] at hlk0
  clear hnr hN hp hp1 hM hM1
  obtain ⟨hi0, hi1⟩ := hi
  obtain ⟨ht0, ht1⟩ := ht
  obtain ⟨he0, he1⟩ := he
  go_enter Tryz.func49, Tryz.ntmps49
  go_wp2
  go_quiet (fail)
  have HB := Lib.hid (pw_below_drewN (below_alloc (Below.refl w.heap.size w) (.cells #[.string x.f0, .int .i64 x.f1.f0, .int .i64 x.f1.f1, .int .i64 x.f1.f2, .int .i64 x.f1.f3, .int .i32 x.f1.f4, .string x.f2] 40)) nq)
  clear hlk hlk0 hcm
  cases has with
  | false =>
    go_wp2
    go_ret2
    exact ⟨by rw [HNR.out]; rfl, HB.out⟩
  | true =>
    by_cases hop : x.f1.f0 = 1
    · have HN2 : Hid (N = tt + x.f1.f4) := Lib.hid (by rw [HN.out, if_pos hop])
      have hop2 : (x.f1.f0 == 1) = true := by rw [hop]; rfl
      clear HN hop
      by_cases h1 : tt + x.f1.f4 < -2147483648
      · exfalso; omega
      · by_cases h2 : 2147483647 < tt + x.f1.f4
        · have HR := Lib.hid (HNR.out.trans (by rw [HN2.out, if_pos (by simp), if_pos (.inr h2)]) : numR marks i x = (0, 13))
          go_wp2
          go_ret2
          exact ⟨by rw [HR.out]; rfl, HB.out⟩
        · have HR := Lib.hid (HNR.out.trans (by rw [HN2.out, if_pos (by simp), if_neg (by omega)]) : numR marks i x = (tt + x.f1.f4, 0))
          go_wp2
          go_ret2
          exact ⟨by rw [HR.out]; rfl, HB.out⟩
    · have HN2 : Hid (N = tt - i - 1) := Lib.hid (by rw [HN.out, if_neg hop])
      have hop2 : (x.f1.f0 == 1) = false := by simpa using hop
      clear HN hop
      by_cases h1 : tt - i - 1 < -2147483648
      · have HR := Lib.hid (HNR.out.trans (by rw [HN2.out, if_pos (by simp), if_pos (.inl h1)]) : numR marks i x = (0, 13))
        go_wp2
        go_ret2
        exact ⟨by rw [HR.out]; rfl, HB.out⟩
      · by_cases h2 : 2147483647 < tt - i - 1
        · have HR := Lib.hid (HNR.out.trans (by rw [HN2.out, if_pos (by simp), if_pos (.inr h2)]) : numR marks i x = (0, 13))
          go_wp2
          go_ret2
          exact ⟨by rw [HR.out]; rfl, HB.out⟩
        · have HR := Lib.hid (HNR.out.trans (by rw [HN2.out, if_pos (by simp), if_neg (by omega)]) : numR marks i x = (tt - i - 1, 0))
          go_wp2
          go_ret2
          exact ⟨by rw [HR.out]; rfl, HB.out⟩
end Go.Proofs.YtbelnkdbghggmaaGreatDoor.X
namespace Go.Proofs.YtbelnkdbghggmaaGreatDoor.Rh
open Go
section
variable {F : Fence} {n : Nat} {P : Program} {ops : Array Oper} {Q : Exit → Act → World → Prop} {md : Region.Mode} {S : World → Prop} {L : Nat → Bool}
def NoDefer (ops : Array Oper) : Prop := ∀ (j : Nat) (o : Oper), ops[j]? = some o → ∀ c, o.op ≠ .defer c
def noDeferB (ops : Array Oper) : Bool := ops.all fun o => match o.op with
  | .defer _ => false
  | _ => true
theorem noDefer_of {ops : Array Oper} (h : noDeferB ops = true) : NoDefer ops := fun j o ho c hc => by
  unfold noDeferB at h
  rw [Array.all_eq_true'] at h
  have := h o (Array.mem_of_getElem? ho)
  rw [hc] at this
  cases this
/-- It yields v in every world that meets S, leaves it as it is, and makes no call. -/
def YieldsS (P : Program) (ops : Array Oper) (S : World → Prop) (o : Oper) (v : Value) (a : Act) : Prop :=
  (Region.wanted o (yielded ops a.tmps) = true ∧ ∀ w, S w → (execOp a.eval o).run P w = .ok (.value v) w) ∧ ∀ w, o.about P w a.eval = none
theorem YieldsS.of_same {o : Oper} {v : Value} {a a' : Act} (hy : YieldsS P ops S o v a) (he : execOp a'.eval o = execOp a.eval o)
    (hw : Region.wanted o (yielded ops a'.tmps) = Region.wanted o (yielded ops a.tmps)) (hb : ∀ w, o.about P w a'.eval = o.about P w a.eval) : YieldsS P ops S o v a' := by
  unfold YieldsS at *
  rw [he, hw]
  exact ⟨hy.1, fun w => by rw [hb w]; exact hy.2 w⟩
theorem YieldsS.wpOpIn {i : Nat} {o : Oper} {v : Value} {a : Act} (hnd : NoDefer ops) (hi : ops[i]? = some o) (hy : YieldsS P ops S o v a)
    {K : Act → World → Prop} {w : World} (hS : S w) (h : K (a.put o.dst v) w) : wpOpIn F n P ops Q i K a w := by
  unfold Go.wpOpIn
  simp only [hi]
  have hab : ∀ f, o.about P w a.eval = some f → F.fn f := fun f hf => by rw [hy.2 w] at hf; cases hf
  obtain ⟨hw, hv⟩ := hy.1
  simp only [hw, if_true, Oper.wpIn, Oper.semAt_eq _ _ _ (hnd i o hi), hv w hS, Oper.uponIn]
  exact ⟨hab, h⟩
theorem wpOpIn_putS {j : Nat} {oi oj : Oper} {v : Value} (hnd : NoDefer ops) (hj : ops[j]? = some oj) (hap : oi.apart ops oj = true)
    (hsi : ∀ cs b, oi.op ≠ .select cs b) (hsj : ∀ cs b, oj.op ≠ .select cs b)
    (hQ : ∀ c a w, Q (.panic c) (a.put oi.dst v) w → Q (.panic c) a w) {K : Act → World → Prop} {a : Act} {w : World}
    (hy : YieldsS P ops S oi v a) (h : wpOpIn F n P ops Q j K (a.put oi.dst v) w) :
    wpOpIn F n P ops Q j (fun a' w' => YieldsS P ops S oi v a' ∧ K (a'.put oi.dst v) w') a w := by
  obtain ⟨h1, h2, h3⟩ := Oper.apart_spec hap
  have keep : ∀ (a : Act), YieldsS P ops S oi v a → ∀ u, YieldsS P ops S oi v (a.put oj.dst u) := fun a hy u =>
    hy.of_same (execOp_put oi hsi a oj.dst u h3) (wanted_put oi a oj.dst u h3) (fun w => about_put oi w a oj.dst u h3)
  have keepD : ∀ d, YieldsS P ops S oi v { a with defers := d :: a.defers } := fun d => hy.of_same rfl rfl (fun _ => rfl)
  have hd := hnd j oj hj
  unfold wpOpIn at *
  simp only [hj] at *
  rw [wanted_put oj a oi.dst v h1, about_put oj w a oi.dst v h1] at h
  split
  · rename_i hw
    simp only [hw, if_true] at h
    unfold Oper.wpIn at *
    rw [about_put oj w a oi.dst v h1] at h
    refine ⟨h.1, ?_⟩
    have h := h.2
    rw [Oper.semAt_eq _ _ _ hd, execOp_put oj hsj a oi.dst v h1] at h
    rw [Oper.semAt_eq _ _ _ hd]
    generalize (execOp a.eval oj).run P w = r at *
    cases r with
    | ok x w' =>
      cases x <;> simp only [Oper.uponIn] at h ⊢
      case value u => exact ⟨keep a hy u, by rw [← Act.put_comm a v u h2]; exact h⟩
      case skip => exact ⟨keep a hy _, by rw [← Act.put_comm a v undef h2]; exact h⟩
      case defer d =>
        refine ⟨keep _ (keepD d) _, ?_⟩
        rw [← Act.put_comm _ v undef h2, ← Act.put_defers]
        exact h
      case enter f args =>
        refine ⟨h.1, CallsIn.mono h.2 fun e w'' he => ?_⟩
        cases e with
        | returned u => exact ⟨keep a hy u, by rw [← Act.put_comm a v u h2]; exact he⟩
        | panicked c => exact hQ _ _ _ he
        | outgrown => exact he
      case row row args => exact ⟨h.1, RowsIn.mono h.2 fun u w'' he => ⟨keep a hy u, by rw [← Act.put_comm a v u h2]; exact he⟩⟩
      case round l f tmps assign body =>
        refine ⟨h.1, RoundIn.mono h.2 fun e w'' he => ?_⟩
        cases e with
        | returned u => exact ⟨keep a hy u, by rw [← Act.put_comm a v u h2]; exact he⟩
        | panicked c => exact hQ _ _ _ he
        | outgrown => exact he
    | halt x w' =>
      cases x <;> simp only [Oper.uponIn] at h ⊢
      case panic u => exact hQ _ _ _ h
  · rename_i hw
    simp only [hw] at h
    exact ⟨h.1, keep a hy _, by rw [← Act.put_comm a v undef h2]; exact h.2⟩
/-- The operations of L wait for number i. -/
def LastOk (md : Region.Mode) (ops : Array Oper) (L : Nat → Bool) (i : Nat) : Prop := ∀ (j : Nat) (o : Oper), ops[j]? = some o → L j = true → i ≠ j → ∃ e ∈ o.after, Region.binds md e = true ∧ e.on = i
def lastB (md : Region.Mode) (ops : Array Oper) (L : Nat → Bool) (i : Nat) : Bool := (List.range ops.size).all fun j => !L j || (match ops[j]? with
  | some o => i == j || o.after.any fun e => Region.binds md e && e.on == i
  | none => true)
theorem last_of {md : Region.Mode} {ops : Array Oper} {L : Nat → Bool} {i : Nat} (h : lastB md ops L i = true) : LastOk md ops L i := fun j o ho hl hne => by
  unfold lastB at h
  rw [List.all_eq_true] at h
  have h1 := h j (List.mem_range.2 (Array.getElem?_eq_some_iff.1 ho).1)
  rw [hl, ho] at h1
  simp only [Bool.not_true, Bool.false_or] at h1
  rw [show (i == j) = false by simpa using hne, Bool.false_or, Array.any_eq_true] at h1
  obtain ⟨k, hk, h3⟩ := h1
  rw [Bool.and_eq_true] at h3
  exact ⟨_, Array.getElem_mem hk, h3.1, by simpa using h3.2⟩
/-- Whatever order is picked from here on, and S holds behind each operation that is carried out, but for those of L. -/
def wpAnyS (F : Fence) (n : Nat) (P : Program) (md : Region.Mode) (ops : Array Oper) (Q : Exit → Act → World → Prop) (S : World → Prop) (L : Nat → Bool) : Nat → Array Bool → Act → World → Prop
  | 0, listed, a, w => Region.ready md ops listed = [] ∧ Q .normal a w
  | fuel + 1, listed, a, w =>
    (Region.ready md ops listed = [] → Q .normal a w) ∧
    ∀ i ∈ Region.ready md ops listed, wpOpIn F n P ops Q i (fun a' w' => (L i = false → S w') ∧ wpAnyS F n P md ops Q S L fuel (listed.setIfInBounds i true) a' w') a w
theorem wpAnyIn_of_S : ∀ (fuel : Nat) (listed : Array Bool) (a : Act) (w : World), wpAnyS F n P md ops Q S L fuel listed a w → wpAnyIn F n P md ops Q fuel listed a w
  | 0, _, _, _, h => h
  | fuel + 1, _, _, _, h => ⟨h.1, fun i hi => wpOpIn_mono (fun a' w' h' => wpAnyIn_of_S fuel _ a' w' h'.2) (h.2 i hi)⟩
theorem wpAnyS_first {i : Nat} {oi : Oper} {v : Value} (hnd : NoDefer ops) (hL : LastOk md ops L i) (hi : ops[i]? = some oi) (hsel : ∀ (j : Nat) (o : Oper) cs b, ops[j]? = some o → o.op ≠ .select cs b)
    (hQ : ∀ c a w, Q (.panic c) (a.put oi.dst v) w → Q (.panic c) a w) :
    ∀ (fuel : Nat) (listed : Array Bool) (a : Act) (w : World),
      (∀ j oj, ops[j]? = some oj → j ≠ i → listed.getD j true = false → (∀ e ∈ oj.after, Region.binds md e = true → e.on ≠ i) → oi.apart ops oj = true) →
      i ∈ Region.ready md ops listed → YieldsS P ops S oi v a → S w →
      wpAnyS F n P md ops Q S L fuel (listed.setIfInBounds i true) (a.put oi.dst v) w → wpAnyS F n P md ops Q S L (fuel + 1) listed a w := by
  intro fuel
  induction fuel with
  | zero =>
    intro listed a w _ hr hy hS H
    refine ⟨fun h => (by rw [h] at hr; cases hr), fun j hj => ?_⟩
    by_cases hji : j = i
    · subst hji; exact hy.wpOpIn hnd hi hS ⟨fun _ => hS, H⟩
    · have := ready_mono hj hji
      rw [H.1] at this
      cases this
  | succ fuel ih =>
    intro listed a w hfree hr hy hS H
    refine ⟨fun h => (by rw [h] at hr; cases hr), fun j hj => ?_⟩
    by_cases hji : j = i
    · subst hji; exact hy.wpOpIn hnd hi hS ⟨fun _ => hS, H⟩
    · have h1 := H.2 j (ready_mono hj hji)
      obtain ⟨hjun, oj, hoj, hall⟩ := mem_ready.1 hj
      have hnot : ∀ e ∈ oj.after, Region.binds md e = true → e.on ≠ i := fun e he hb heq => by
        have h1 := hall e he hb
        have h0 := (mem_ready.1 hr).1
        rw [heq] at h1
        rcases Nat.lt_or_ge i listed.size with h' | h'
        · simp [h'] at h0 h1; rw [h0] at h1; cases h1
        · simp [Array.getElem?_eq_none h'] at h1
      have h2 := wpOpIn_putS hnd hoj (hfree j oj hoj hji hjun hnot) (fun cs b => hsel i oi cs b hi) (fun cs b => hsel j oj cs b hoj) hQ hy h1
      have hfree' : ∀ k ok, ops[k]? = some ok → k ≠ i → (listed.setIfInBounds j true).getD k true = false →
          (∀ e ∈ ok.after, Region.binds md e = true → e.on ≠ i) → oi.apart ops ok = true := fun k ok hk hki hun hno => by
        refine hfree k ok hk hki ?_ hno
        by_cases hjk : j = k
        · subst hjk; exact hjun
        · rw [getD_set_ne true hjk] at hun; exact hun
      have hLj : L j = false := by
        cases hl : L j with
        | false => rfl
        | true =>
          obtain ⟨e, he, hb, hon⟩ := hL j oj hoj hl (Ne.symm hji)
          exact absurd hon (hnot e he hb)
      refine wpOpIn_mono (fun a' w' h3 => ⟨h3.2.1, ih (listed.setIfInBounds j true) a' w' hfree' (ready_mono hr (Ne.symm hji)) h3.1 (h3.2.1 hLj) ?_⟩) h2
      rw [Array.setIfInBounds_comm _ _ hji]
      exact h3.2.2
/-- Take number i first. -/
theorem take {i : Nat} {oi : Oper} {v : Value} {fuel : Nat} {listed : Array Bool} {a : Act} {w : World} (hnd : NoDefer ops) (hL : LastOk md ops L i) (hi : ops[i]? = some oi)
    (hs : Region.noSelect ops = true) (hf : Region.free md ops listed i = true) (hr : (Region.ready md ops listed).contains i = true)
    (hQ : ∀ c a w, Q (.panic c) (a.put oi.dst v) w → Q (.panic c) a w) (hS : S w) (hw : Region.wanted oi (yielded ops a.tmps) = true) (hab : ∀ w, oi.about P w a.eval = none) (hy : ∀ w, S w → (execOp a.eval oi).run P w = .ok (.value v) w)
    (d : Tmp) (hd : oi.dst = some d) (h : wpAnyS F n P md ops Q S L fuel (listed.setIfInBounds i true) (a.put (some d) v) w) : wpAnyS F n P md ops Q S L (fuel + 1) listed a w := by
  rw [← hd] at h
  exact wpAnyS_first hnd hL hi (Region.noSelect_spec hs) hQ fuel listed a w (Region.free_spec hi hf) (by simpa using hr) ⟨⟨hw, hy⟩, hab⟩ hS h
/-- The one that may come up. -/
theorem one {i : Nat} {o : Oper} {fuel : Nat} {listed : Array Bool} {a : Act} {w : World} (hi : ops[i]? = some o) (hr : Region.ready md ops listed = [i]) (hw : Region.wanted o (yielded ops a.tmps) = true)
    (h : o.wpIn F n P a w (fun a' w' => (L i = false → S w') ∧ wpAnyS F n P md ops Q S L fuel (listed.setIfInBounds i true) a' w') Q) : wpAnyS F n P md ops Q S L (fuel + 1) listed a w :=
  ⟨fun h0 => (by rw [h0] at hr; cases hr), fun j hj => by
    rw [hr] at hj
    obtain rfl := List.mem_singleton.1 hj
    unfold wpOpIn
    simp only [hi, hw, if_true]
    exact h⟩
theorem done {listed : Array Bool} {a : Act} {w : World} (hr : Region.ready md ops listed = []) (h : Q .normal a w) : ∀ fuel, wpAnyS F n P md ops Q S L fuel listed a w
  | 0 => ⟨hr, h⟩
  | _ + 1 => ⟨fun _ => h, by rw [hr]; simp⟩
theorem start (S : World → Prop) (L : Nat → Bool) {id : Nat} {a : Act} {w : World} (hm : P.follows .mixedOrders = true)
    (h : wpAnyS F n P .any ops Q S L ops.size (Array.replicate ops.size false) a w.drew) : (Code.region id ops true).wpIn F n P Q a w :=
  wpIn_region_any hm (wpAnyIn_of_S _ _ _ _ h)
/-- An append whose run is told. -/
theorem app {o : Oper} {a : Act} {w : World} {K : Act → World → Prop} (s x : Operand) (t : TypeId) (hop : o.op = Op.call { callee := Callee.builtin Builtin.append, args := #[s, x], argTypes := #[t, t] }) (v u : Value) (hs : a.eval s = v) (hx : a.eval x = u) {v' : Value} {w' : World}
    (hrun : (Builtin.append_ #[t, t] o.type #[v, u]).run P w = .ok v' w') (d : Tmp) (hd : o.dst = some d) (hK : K (a.put (some d) v') w') : o.wpIn F n P a w K Q := by
  unfold Oper.wpIn
  refine ⟨?_, ?_⟩
  · simp [Oper.about, hop, resolve, Target.leads, Sem.run_pure]
  · rw [Oper.semAt_plain F _ _ (by rw [hop]; intro c hc'; cases hc')]
    simp only [execOp, hop, resolve, invoke, builtin, hs, hx, hrun, Result.andThen, Sem.run_bind, Sem.run_pure, List.map_toArray, List.map_cons, List.map_nil, Oper.uponIn]
    rw [hd]
    exact hK
end
end Go.Proofs.YtbelnkdbghggmaaGreatDoor.Rh
