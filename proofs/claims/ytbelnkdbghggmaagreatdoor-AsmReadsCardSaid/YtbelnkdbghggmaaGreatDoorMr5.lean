/- Texts of this claim that stand one behind another, merged. -/
import Derived.Test.YtbelnkdbghggmaaGreatDoorRx
import Derived.Test.YtbelnkdbghggmaaGreatDoorMr3
import Derived.Lib.OthersKept
namespace Go.Proofs.YtbelnkdbghggmaaGreatDoor.X
open Go.RowKit Go.Proofs.YtbelnkdbghggmaaGreatDoorW.PrintWords Go.Proofs.YtbelnkdbghggmaaGreatDoorW.PrintLast
set_option linter.unusedVariables false
set_option linter.unusedSimpArgs false
def txtF (x : S40) : Option ByteArray := asm_text.f x.f0 x.f1.f0 x.f1.f1 x.f1.f2 x.f1.f3 x.f1.f4 x.f2
end Go.Proofs.YtbelnkdbghggmaaGreatDoor.X
namespace Go.Proofs.YtbelnkdbghggmaaGreatDoor.X
open Go.RowKit Go.Proofs.YtbelnkdbghggmaaGreatDoorW.PrintWords Go.Proofs.YtbelnkdbghggmaaGreatDoorW.PrintLast

set_option linter.unusedVariables false
set_option linter.unusedSimpArgs false
abbrev RS := ByteArray × Int × Int × Int × Int × Int × ByteArray × Bool
def partR (s : RS) (c : Int) (t : ByteArray) : Option RS := asm_reader_part.f s.1 s.2.1 s.2.2.1 s.2.2.2.1 s.2.2.2.2.1 s.2.2.2.2.2.1 s.2.2.2.2.2.2.1 s.2.2.2.2.2.2.2 c t
/-- The reader behind the first parts. -/
def partsUpto (ws : List ByteArray) (sh : ByteArray) (op : Int) : Nat → Option RS
 | 0 => some (⟨#[]⟩, op, 0, 0, 0, 0, ⟨#[]⟩, true)
 | i + 1 => if i + 1 < ws.length ∧ (sh.data.getD i 0).toNat < 128 then (partsUpto ws sh op i).bind fun s => partR s ((sh.data.getD i 0).toNat : Int) (rdOf ByteArray.empty ws ((i + 1 : Nat) : Int)) else none
def asm_parts.f (ws : List ByteArray) (sh : ByteArray) (op : Int) : Option RS := partsUpto ws sh op sh.size
theorem parts_prefix (ws : List ByteArray) (sh : ByteArray) (op : Int) : ∀ (n : Nat) (r : RS), partsUpto ws sh op n = some r → ∀ i, i ≤ n → ∃ s, partsUpto ws sh op i = some s
 | 0, r, h, i, hi => by
  have e : i = 0 := by omega
  subst e
  exact ⟨r, h⟩
 | n + 1, r, h, i, hi => by
  rcases Nat.lt_or_ge n i with h1 | h1
  ·have e : i = n + 1 := by omega
   subst e
   exact ⟨r, h⟩
  ·simp only [partsUpto] at h
   split at h
   ·obtain ⟨s, hs, _⟩ := Option.bind_eq_some_iff.1 h
    exact parts_prefix ws sh op n s hs i h1
   ·cases h
theorem parts_step {ws : List ByteArray} {sh : ByteArray} {op : Int} {r : RS} (h : asm_parts.f ws sh op = some r) {i : Nat} (hi : i < sh.size) {s : RS} (hs : partsUpto ws sh op i = some s) :
  i + 1 < ws.length ∧ (sh.data.getD i 0).toNat < 128 ∧ ∃ s', partsUpto ws sh op (i + 1) = some s' ∧ partR s ((sh.data.getD i 0).toNat : Int) (rdOf ByteArray.empty ws ((i + 1 : Nat) : Int)) = some s' := by
 obtain ⟨s', h'⟩ := parts_prefix ws sh op sh.size r h (i + 1) hi
 have h2 := h'
 simp only [partsUpto] at h2
 split at h2
 ·rename_i hc
  rw [hs] at h2
  exact ⟨hc.1, hc.2, s', h', h2⟩
 ·cases h2
theorem box_lt {w : World} {b : Nat} {o : Obj} (h : w.heap[b]? = some o) : b < w.heap.size := (Array.getElem?_eq_some_iff.1 h).1
/-! ### asm_read: function 15 -/
def asm_read.j0 : Nat → ByteArray → List ByteArray → ByteArray → Int → Bool → Option (ByteArray × Int × Int × Int × Int × Int × ByteArray × Bool)
 | 0, _, _, _, _, _ => none
 | k + 1, x0, ws, sh, op, x39 => if x39 = true then (some ((⟨#[]⟩ : ByteArray), 0, 0, 0, 0, 0, (⟨#[]⟩ : ByteArray), false)) else ((asm_parts.f ws sh op).bind fun bt174 => (if bt174.2.2.2.2.2.2.2 = true then ((asm_good.f bt174.1 bt174.2.1 bt174.2.2.1 bt174.2.2.2.1 bt174.2.2.2.2.1 bt174.2.2.2.2.2.1 bt174.2.2.2.2.2.2.1).bind fun t183 => (if t183 = true then ((asm_text.f bt174.1 bt174.2.1 bt174.2.2.1 bt174.2.2.2.1 bt174.2.2.2.2.1 bt174.2.2.2.2.2.1 bt174.2.2.2.2.2.2.1).bind fun t184 => (some (bt174.1, bt174.2.1, bt174.2.2.1, bt174.2.2.2.1, bt174.2.2.2.2.1, bt174.2.2.2.2.2.1, bt174.2.2.2.2.2.2.1, (t184.toList == x0.toList)))) else (some (bt174.1, bt174.2.1, bt174.2.2.1, bt174.2.2.2.1, bt174.2.2.2.2.1, bt174.2.2.2.2.2.1, bt174.2.2.2.2.2.2.1, false)))) else (some (bt174.1, bt174.2.1, bt174.2.2.1, bt174.2.2.2.1, bt174.2.2.2.2.1, bt174.2.2.2.2.2.1, bt174.2.2.2.2.2.2.1, false))))
def asm_read.f (k : Nat) (a0 : ByteArray) : Option (ByteArray × Int × Int × Int × Int × Int × ByteArray × Bool) := (strings_CutSuffix.f a0 (⟨#[58]⟩ : ByteArray)).bind fun bt165 => (if bt165.2 = true then ((asm_named.f bt165.1).bind fun t167 => (some (bt165.1, 0, 0, 0, 0, 0, (⟨#[]⟩ : ByteArray), t167))) else ((strings_Split.f a0 (⟨#[32]⟩ : ByteArray)).bind fun t168 => (if 0 < (t168.length : Int) then ((asm_operation.f k (rdOf ByteArray.empty t168 0)).bind fun t172 => ((inst_Shape.f t172).bind fun t173 => (if t172 < 0 then (asm_read.j0 k a0 t168 t173 t172 true) else (asm_read.j0 k a0 t168 t173 t172 ((t168.length : Int) != (wrap64 ((t173.size : Int) + 1))))))) else (none))))
def asm_read.T14 : Bool × List (List Nat × List Nat) := (true, [([], []), ([0], [0]), ([1], [1]), ([2], [2]), ([], []), ([4], [4]), ([5], [5]), ([6], [6]), ([7], [7]), ([8], [8]), ([9, 8], [8, 9]), ([10, 8], [8, 10]), ([11, 8], [8, 11]), ([12, 8, 8], [8, 12]), ([8, 13], [8, 13]), ([14, 13], [14]), ([15], [15]), ([16, 15], [15, 16]), ([17, 15], [15, 17]), ([18, 15], [15, 18]), ([19, 15, 15], [15, 19]), ([15], [15]), ([20, 21, 15], [15, 20, 21]), ([15, 22], [15, 22]), ([3, 20, 0, 1, 2, 3], [3]), ([23, 24, 0, 1, 2, 3, 4, 5, 6, 7, 8, 9, 10, 11, 12, 13, 14, 15, 16, 17, 18, 19, 20, 21, 22, 23, 24], [23])])
def asm_read.B14 : List Nat := [0, 1, 3, 7, 0, 16, 48, 112, 240, 496, 1008, 2032, 4080, 8176, 16368, 32752, 65520, 131056, 262128, 524272, 1048560, 65520, 4194288, 8388592, 2097151, 33554431]
theorem asm_read.tab14 : rtab .any (opsOf Tryz.f15 14) = asm_read.T14 := by kernel_rfl
theorem asm_read.bits14 : waitsOk asm_read.T14.2 asm_read.B14 = true := by kernel_rfl
set_option maxHeartbeats 8000000 in
set_option maxRecDepth 100000 in
theorem asm_read.calls (k : Nat) (a0 : ByteArray) (r1 : ByteArray) (r2 : Int) (r3 : Int) (r4 : Int) (r5 : Int) (r6 : Int) (r7 : ByteArray) (r8 : Bool) (w : World) (HTAB0 : Env w) (h : asm_read.f k a0 = some (r1, r2, r3, r4, r5, r6, r7, r8)) :
  Calls Tryz.prog 15 #[.string a0] w fun e w' => e = .returned (.tuple #[.agg #[.string r1, .int .i64 r2, .int .i64 r3, .int .i64 r4, .int .i64 r5, .int .i32 r6, .string r7], .bool r8]) ∧ Below w.heap.size w w' := by
 have HTAB := Q4 HTAB0
 clear HTAB0
 have hu40 := Tryz.underlying40
 have hu75 := Tryz.underlying75
 have HB := Q4 (Below.refl w.heap.size w)
 have H := h
 unfold asm_read.f at H
 clear h
 replace H := Qi H
 obtain ⟨⟨t165, t166⟩, A20, H⟩ := H
 try dsimp only at H
 have A2 := Q4 A20
 clear A20
 by_cases c3 : t166 = true
 ·subst c3
  rw [if_pos rfl] at H
  replace H := Qi H
  obtain ⟨t167, A40, H⟩ := H
  try dsimp only at H
  have A4 := Q4 A40
  clear A40
  simp only [Option.some.injEq, Prod.mk.injEq] at H
  obtain ⟨rfl, rfl, rfl, rfl, rfl, rfl, rfl, rfl⟩ := H
  go_enter Tryz.func15, Tryz.ntmps15
  go_wp2_with (first|((with_reducible refine gate_dst (N := 2) rfl ?_); (try (refine gate_guard (by rfl) ?_; dsimp only)); refine box_event ?hg (N := 2) ?hd (cs := #[.string (⟨#[]⟩ : ByteArray), .int .i64 0, .int .i64 0, .int .i64 0, .int .i64 0, .int .i32 0, .string (⟨#[]⟩ : ByteArray)]) (t := 40) ?hr ?_; (case hd => rfl); (case hg => rfl); (case hr => first|(go_simp; done)|(go_simp; rfl)); intro gb164 hg w5 hbox hb; have n0_ := Q4 (Qg (by repeat (first|(with_reducible first|exact HB.out|apply Q8|apply Q5|apply Q9)|exact HB.out)) hb); have n1_ := Q4 (hbox); have n2_ := Q4 ((by rw [hg]; exact bZ : w.heap.size ≤ gb164)); have n3_ := Q4 ((by rw [hg]; exact bZ : w.heap.size ≤ gb164)); clear HB; have HB := n0_; have BK164 := n1_; have GW164 := n2_; have GE164 := n3_; clear n0_ n1_ n2_ n3_; clear hb hbox hg)|((with_reducible refine gate_callee (f := 27) rfl ?_); refine gL (some 14) Tryz.func27 #[.string a0, .string (⟨#[58]⟩ : ByteArray)] ?_; (with_reducible refine (strings_CutSuffix.calls a0 (⟨#[58]⟩ : ByteArray) t165 true _ A2.out).mono ?_); rintro e w6 ⟨rfl, hb⟩; refine ⟨_, rfl, ?_⟩; have n0_ := Q4 (Qo (g := gb164) (o := .cells #[.string (⟨#[]⟩ : ByteArray), .int .i64 0, .int .i64 0, .int .i64 0, .int .i64 0, .int .i32 0, .string (⟨#[]⟩ : ByteArray)] 40 (0, 0)) (bK BK164) hb); have n1_ := Q4 (Qg (by repeat (first|(with_reducible first|exact HB.out|apply Q8|apply Q5|apply Q9|refine Q6 ?_ GE164.out)|exact HB.out)) hb); clear BK164; clear HB; have BK164 := n0_; have HB := n1_; clear n0_ n1_;(try clear hb);(try clear hb2);(try clear hk);(try clear hi))|((with_reducible refine gate_callee (f := 28) rfl ?_); refine gL (some 21) Tryz.func28 #[.string t165] ?_; (with_reducible refine (asm_named.calls t165 t167 _ A4.out).mono ?_); rintro e w7 ⟨rfl, hb⟩; refine ⟨_, rfl, ?_⟩; have n0_ := Q4 (Qo (g := gb164) (o := .cells #[.string (⟨#[]⟩ : ByteArray), .int .i64 0, .int .i64 0, .int .i64 0, .int .i64 0, .int .i32 0, .string (⟨#[]⟩ : ByteArray)] 40 (0, 0)) (bK BK164) hb); have n1_ := Q4 (Qg (by repeat (first|(with_reducible first|exact HB.out|apply Q8|apply Q5|apply Q9|refine Q6 ?_ GE164.out)|exact HB.out)) hb); clear BK164; clear HB; have BK164 := n0_; have HB := n1_; clear n0_ n1_;(try clear hb);(try clear hb2);(try clear hk);(try clear hi); have hcz8_0 : w7.cell? ⟨gb164, 0, none⟩ = some (.string (⟨#[]⟩ : ByteArray)) := (Qe BK164.out 0).trans rfl; have hcz8_1 : w7.cell? ⟨gb164, 1, none⟩ = some (.int .i64 0) := (Qe BK164.out 1).trans rfl; have hcz8_2 : w7.cell? ⟨gb164, 2, none⟩ = some (.int .i64 0) := (Qe BK164.out 2).trans rfl; have hcz8_3 : w7.cell? ⟨gb164, 3, none⟩ = some (.int .i64 0) := (Qe BK164.out 3).trans rfl; have hcz8_4 : w7.cell? ⟨gb164, 4, none⟩ = some (.int .i64 0) := (Qe BK164.out 4).trans rfl; have hcz8_5 : w7.cell? ⟨gb164, 5, none⟩ = some (.int .i32 0) := (Qe BK164.out 5).trans rfl; have hcz8_6 : w7.cell? ⟨gb164, 6, none⟩ = some (.string (⟨#[]⟩ : ByteArray)) := (Qe BK164.out 6).trans rfl; have hfz8_0 := Qd BK164.out 0; have hfz8_1 := Qd BK164.out 1; have hfz8_2 := Qd BK164.out 2; have hfz8_3 := Qd BK164.out 3; have hfz8_4 := Qd BK164.out 4; have hfz8_5 := Qd BK164.out 5; have hfz8_6 := Qd BK164.out 6))
  refine bodyPost_ret (results_ct rfl _ _ gb164 40 #[.string t165, .int .i64 0, .int .i64 0, .int .i64 0, .int .i64 0, .int .i32 0, .string (⟨#[]⟩ : ByteArray)] (0, 0) _ rfl (by (with_reducible repeat (first|refine Qa ?_ _|refine Qb ?_|refine Q7 ?_ _)); refine blk_put (cs := #[.string t165, .int .i64 0, .int .i64 0, .int .i64 0, .int .i64 0, .int .i32 0, .string (⟨#[]⟩ : ByteArray)]) ?_ 6 _ rfl; (with_reducible repeat (first|refine Qa ?_ _|refine Qb ?_|refine Q7 ?_ _)); refine blk_put (cs := #[.string t165, .int .i64 0, .int .i64 0, .int .i64 0, .int .i64 0, .int .i32 0, .string (⟨#[]⟩ : ByteArray)]) ?_ 5 _ rfl; (with_reducible repeat (first|refine Qa ?_ _|refine Qb ?_|refine Q7 ?_ _)); refine blk_put (cs := #[.string t165, .int .i64 0, .int .i64 0, .int .i64 0, .int .i64 0, .int .i32 0, .string (⟨#[]⟩ : ByteArray)]) ?_ 4 _ rfl; (with_reducible repeat (first|refine Qa ?_ _|refine Qb ?_|refine Q7 ?_ _)); refine blk_put (cs := #[.string t165, .int .i64 0, .int .i64 0, .int .i64 0, .int .i64 0, .int .i32 0, .string (⟨#[]⟩ : ByteArray)]) ?_ 3 _ rfl; (with_reducible repeat (first|refine Qa ?_ _|refine Qb ?_|refine Q7 ?_ _)); refine blk_put (cs := #[.string t165, .int .i64 0, .int .i64 0, .int .i64 0, .int .i64 0, .int .i32 0, .string (⟨#[]⟩ : ByteArray)]) ?_ 2 _ rfl; (with_reducible repeat (first|refine Qa ?_ _|refine Qb ?_|refine Q7 ?_ _)); refine blk_put (cs := #[.string t165, .int .i64 0, .int .i64 0, .int .i64 0, .int .i64 0, .int .i32 0, .string (⟨#[]⟩ : ByteArray)]) ?_ 1 _ rfl; (with_reducible repeat (first|refine Qa ?_ _|refine Qb ?_|refine Q7 ?_ _)); refine blk_put (cs := #[.string (⟨#[]⟩ : ByteArray), .int .i64 0, .int .i64 0, .int .i64 0, .int .i64 0, .int .i32 0, .string (⟨#[]⟩ : ByteArray)]) ?_ 0 _ rfl; (with_reducible repeat (first|refine Qa ?_ _|refine Qb ?_|refine Q7 ?_ _)); exact BK164.out) Tryz.underlying40 rfl (by kernel_rfl)) rfl ?_
  exact ⟨by first|rfl|(simp [errW_none, errW_some] <;> rfl)|(simp [*, errW_none, errW_some] <;> rfl), by repeat (first|(with_reducible first|exact HB.out|apply Q8|apply Q5|apply Q9|refine Q6 ?_ GE164.out)|exact HB.out)⟩
 ·replace c3 := Bool.eq_false_iff.mpr c3
  subst c3
  rw [if_neg (show ¬ (false = true) by decide)] at H
  replace H := Qi H
  obtain ⟨t168, A90, H⟩ := H
  try dsimp only at H
  have A9 := Q4 A90
  clear A90
  by_cases c10 : 0 < (t168.length : Int)
  ·rw [if_pos c10] at H
   have c10b0 : decide (0 < (t168.length : Int)) = true := Qj c10
   have c10b1 : decide (0 < t168.length) = true := Qj (by omega)
   clear c10
   replace H := Qi H
   obtain ⟨t172, A110, H⟩ := H
   try dsimp only at H
   have A11 := Q4 A110
   clear A110
   replace H := Qi H
   obtain ⟨t173, A120, H⟩ := H
   try dsimp only at H
   have A12 := Q4 A120
   clear A120
   have HC13 := Q4 H
   clear H
   go_enter Tryz.func15, Tryz.ntmps15
   go_upto_region 7 with (first|((with_reducible refine gate_dst (N := 2) rfl ?_); (try (refine gate_guard (by rfl) ?_; dsimp only)); refine box_event ?hg (N := 2) ?hd (cs := #[.string (⟨#[]⟩ : ByteArray), .int .i64 0, .int .i64 0, .int .i64 0, .int .i64 0, .int .i32 0, .string (⟨#[]⟩ : ByteArray)]) (t := 40) ?hr ?_; (case hd => rfl); (case hg => rfl); (case hr => first|(go_simp; done)|(go_simp; rfl)); intro gb164 hg w14 hbox hb; have n0_ := Q4 (Qg (by repeat (first|(with_reducible first|exact HB.out|apply Q8|apply Q5|apply Q9)|exact HB.out)) hb); have n1_ := Q4 (hbox); have n2_ := Q4 ((by rw [hg]; exact bZ : w.heap.size ≤ gb164)); have n3_ := Q4 ((by rw [hg]; exact bZ : w.heap.size ≤ gb164)); clear HB; have HB := n0_; have BK164 := n1_; have GW164 := n2_; have GE164 := n3_; clear n0_ n1_ n2_ n3_; clear hb hbox hg)|((with_reducible refine gate_callee (f := 27) rfl ?_); refine gL (some 14) Tryz.func27 #[.string a0, .string (⟨#[58]⟩ : ByteArray)] ?_; (with_reducible refine (strings_CutSuffix.calls a0 (⟨#[58]⟩ : ByteArray) t165 false _ A2.out).mono ?_); rintro e w15 ⟨rfl, hb⟩; refine ⟨_, rfl, ?_⟩; have n0_ := Q4 (Qo (g := gb164) (o := .cells #[.string (⟨#[]⟩ : ByteArray), .int .i64 0, .int .i64 0, .int .i64 0, .int .i64 0, .int .i32 0, .string (⟨#[]⟩ : ByteArray)] 40 (0, 0)) (bK BK164) hb); have n1_ := Q4 (Qg (by repeat (first|(with_reducible first|exact HB.out|apply Q8|apply Q5|apply Q9|refine Q6 ?_ GE164.out)|exact HB.out)) hb); clear BK164; clear HB; have BK164 := n0_; have HB := n1_; clear n0_ n1_;(try clear hb);(try clear hb2);(try clear hk);(try clear hi))|((with_reducible refine gate_callee (f := 29) rfl ?_); refine gL (some 23) Tryz.func29 #[.string a0, .string (⟨#[32]⟩ : ByteArray)] ?_; (with_reducible refine (strings_Split.calls a0 (⟨#[32]⟩ : ByteArray) t168 _ (env_mono HTAB.out (by repeat (first|(with_reducible first|exact HB.out|apply Q8|apply Q5|apply Q9|refine Q6 ?_ GE164.out)|exact HB.out))) A9.out).mono ?_); rintro e w16 ⟨v169, rfl, ho0, hb⟩; refine ⟨_, rfl, ?_⟩; have n0_ := Q4 (Kd.R_lower ho0 (below_size (by repeat (first|(with_reducible first|exact HB.out|apply Q8|apply Q5|apply Q9|refine Q6 ?_ GE164.out)|exact HB.out)))); have n1_ := Q4 (Qo (g := gb164) (o := .cells #[.string (⟨#[]⟩ : ByteArray), .int .i64 0, .int .i64 0, .int .i64 0, .int .i64 0, .int .i32 0, .string (⟨#[]⟩ : ByteArray)] 40 (0, 0)) (bK BK164) hb); have n2_ := Q4 (Qg (by repeat (first|(with_reducible first|exact HB.out|apply Q8|apply Q5|apply Q9|refine Q6 ?_ GE164.out)|exact HB.out)) hb); clear BK164; clear HB; have HO170 := n0_; have BK164 := n1_; have HB := n2_; clear n0_ n1_ n2_;(try clear hb);(try clear hb2);(try clear hk);(try clear hi);(try clear ho0); obtain ⟨Ao17, co17, eo17⟩ := Kd.R_slice HO170.out; subst eo17; have p171 : 0 ≤ (0 : Int) := (by omega); have q171 : 0 < (t168.length : Int) := Qc (by first|(with_reducible assumption)|assumption); obtain ⟨ad171, e171, hx171_0⟩ := Kd.at_string (Kd.R_reads' HO170.out).2.2 0 p171 q171; cases e171; have qi171 : (0 < t168.length) = True := eq_true (by omega); (try rw [show ((0 : Int)).toNat = 0 from rfl] at hx171_0); (try rw [Addr.add_zero'] at hx171_0); replace p171 := eq_true p171; replace q171 := eq_true q171)|((with_reducible refine gate_callee (f := 30) rfl ?_); refine gL (some 27) Tryz.func30 #[.string (rdOf ByteArray.empty t168 0)] ?_; (with_reducible refine (asm_operation.calls k (rdOf ByteArray.empty t168 0) t172 _ (env_mono HTAB.out (by repeat (first|(with_reducible first|exact HB.out|apply Q8|apply Q5|apply Q9|refine Q6 ?_ GE164.out)|exact HB.out))) A11.out).mono ?_); rintro e w18 ⟨rfl, hb⟩; refine ⟨_, rfl, ?_⟩; have n0_ := Q4 (Kd.R_below (rK HO170) hb); have n1_ := Q4 (Qo (g := gb164) (o := .cells #[.string (⟨#[]⟩ : ByteArray), .int .i64 0, .int .i64 0, .int .i64 0, .int .i64 0, .int .i32 0, .string (⟨#[]⟩ : ByteArray)] 40 (0, 0)) (bK BK164) hb); have n2_ := Q4 (Qg (by repeat (first|(with_reducible first|exact HB.out|apply Q8|apply Q5|apply Q9|refine Q6 ?_ GE164.out)|exact HB.out)) hb); clear HO170; clear BK164; clear HB; have HO170 := n0_; have BK164 := n1_; have HB := n2_; clear n0_ n1_ n2_;(try clear hb);(try clear hb2);(try clear hk);(try clear hi))|((with_reducible refine gate_callee (f := 31) rfl ?_); refine gL (some 29) Tryz.func31 #[.int .i64 t172] ?_; (with_reducible refine (inst_Shape.calls t172 t173 _ A12.out).mono ?_); rintro e w19 ⟨rfl, hb⟩; refine ⟨_, rfl, ?_⟩; have n0_ := Q4 (Kd.R_below (rK HO170) hb); have n1_ := Q4 (Qo (g := gb164) (o := .cells #[.string (⟨#[]⟩ : ByteArray), .int .i64 0, .int .i64 0, .int .i64 0, .int .i64 0, .int .i32 0, .string (⟨#[]⟩ : ByteArray)] 40 (0, 0)) (bK BK164) hb); have n2_ := Q4 (Qg (by repeat (first|(with_reducible first|exact HB.out|apply Q8|apply Q5|apply Q9|refine Q6 ?_ GE164.out)|exact HB.out)) hb); clear HO170; clear BK164; clear HB; have HO170 := n0_; have BK164 := n1_; have HB := n2_; clear n0_ n1_ n2_;(try clear hb);(try clear hb2);(try clear hk);(try clear hi)))
   (try simp only [Act.put, Q1,Q2,Q3])
   go_cut [39] (fun v39 wc => ∃ (kq : Nat) (x39_12 : Bool), v39 = .bool x39_12 ∧ Aside0 (asm_read.j0 kq a0 t168 t173 t172 x39_12 = some (r1, r2, r3, r4, r5, r6, r7, r8)) ∧ Aside0 (kq ≤ k) ∧ Aside0 (wc.heap[gb164]? = some (.cells #[.string (⟨#[]⟩ : ByteArray), .int .i64 0, .int .i64 0, .int .i64 0, .int .i64 0, .int .i32 0, .string (⟨#[]⟩ : ByteArray)] 40 (0, 0))) ∧ Aside0 (Below w.heap.size w wc) ∧ Aside0 (Kd.R Kd.string 9 wc w.heap.size (fun _ => True) (.slice (some ad171) t168.length co17) t168))
   case first =>
    have H := HC13.out
    clear HC13
    by_cases c20 : t172 < 0
    ·rw [if_pos c20] at H
     have c20b0 : decide (t172 < 0) = true := Qj c20
     clear c20
     (first | rw [c20b0]|(simp only [i64_w, i32_w]; rw [c20b0])|skip)
     have H' := Q4 H
     clear H
     go_wp2
     go_meet
     case rel => exact ⟨_, (true), (by first|rfl|(simp; done)|(simp [*]; done)), H', ⟨by first|omega|exact Nat.le_refl _⟩, ⟨by (with_reducible repeat (first|refine Qa ?_ _|refine Qb ?_|refine Q7 ?_ _)); exact BK164.out⟩, ⟨by repeat (first|(with_reducible first|exact HB.out|apply Q8|apply Q5|apply Q9|refine Q6 ?_ GE164.out)|exact HB.out)⟩, ⟨by (with_reducible repeat (first|apply Kd.R_alloc|apply Kd.R_drewN|apply Kd.R_drew)); exact HO170.out⟩⟩
    ·rw [if_neg c20] at H
     have c20b0 : decide (t172 < 0) = false := decide_eq_false c20
     clear c20
     (first | rw [c20b0]|(simp only [i64_w, i32_w]; rw [c20b0])|skip)
     have H' := Q4 H
     clear H
     go_wp2
     go_meet
     case rel => exact ⟨_, (((t168.length : Int) != (wrap64 ((t173.size : Int) + 1)))), (by first|rfl|(simp; done)|(simp [*]; done)), H', ⟨by first|omega|exact Nat.le_refl _⟩, ⟨by (with_reducible repeat (first|refine Qa ?_ _|refine Qb ?_|refine Q7 ?_ _)); exact BK164.out⟩, ⟨by repeat (first|(with_reducible first|exact HB.out|apply Q8|apply Q5|apply Q9|refine Q6 ?_ GE164.out)|exact HB.out)⟩, ⟨by (with_reducible repeat (first|apply Kd.R_alloc|apply Kd.R_drewN|apply Kd.R_drew)); exact HO170.out⟩⟩
   case rest =>
    clear HC13
    (try clear c1);(try clear p1);(try clear q1);(try clear hx1);(try clear qi1);(try clear c2);(try clear p2);(try clear c3);(try clear p6);(try clear c10);(try clear c10b0);(try clear c10b1);(try clear c15);(try clear p17);(try clear q17);(try clear hx17);(try clear qi17);(try clear c20);(try clear c20b0);(try clear hcz8_0);(try clear hcz8_1);(try clear hcz8_2);(try clear hcz8_3);(try clear hcz8_4);(try clear hcz8_5);(try clear hcz8_6);(try clear hfz8_0);(try clear hfz8_1);(try clear hfz8_2);(try clear hfz8_3);(try clear hfz8_4);(try clear hfz8_5);(try clear hfz8_6);(try clear hx171_0);(try clear p171);(try clear q171)
    obtain ⟨kq, x39_12, rfl, HA, HJ12, BK164, HB, HO170⟩ := hcut
    cases kq with
    | zero => exact absurd HA.out (by simp [asm_read.j0])
    | succ kj12 =>
     have H := HA.out
     clear HA
     simp only [asm_read.j0] at H
     by_cases c21 : x39_12 = true
     ·subst c21
      rw [if_pos rfl] at H
      simp only [Option.some.injEq, Prod.mk.injEq] at H
      obtain ⟨rfl, rfl, rfl, rfl, rfl, rfl, rfl, rfl⟩ := H
      have hcz22_0 : wc.cell? ⟨gb164, 0, none⟩ = some (.string (⟨#[]⟩ : ByteArray)) := (Qe BK164.out 0).trans rfl
      have hcz22_1 : wc.cell? ⟨gb164, 1, none⟩ = some (.int .i64 0) := (Qe BK164.out 1).trans rfl
      have hcz22_2 : wc.cell? ⟨gb164, 2, none⟩ = some (.int .i64 0) := (Qe BK164.out 2).trans rfl
      have hcz22_3 : wc.cell? ⟨gb164, 3, none⟩ = some (.int .i64 0) := (Qe BK164.out 3).trans rfl
      have hcz22_4 : wc.cell? ⟨gb164, 4, none⟩ = some (.int .i64 0) := (Qe BK164.out 4).trans rfl
      have hcz22_5 : wc.cell? ⟨gb164, 5, none⟩ = some (.int .i32 0) := (Qe BK164.out 5).trans rfl
      have hcz22_6 : wc.cell? ⟨gb164, 6, none⟩ = some (.string (⟨#[]⟩ : ByteArray)) := (Qe BK164.out 6).trans rfl
      have hfz22_0 := Qd BK164.out 0
      have hfz22_1 := Qd BK164.out 1
      have hfz22_2 := Qd BK164.out 2
      have hfz22_3 := Qd BK164.out 3
      have hfz22_4 := Qd BK164.out 4
      have hfz22_5 := Qd BK164.out 5
      have hfz22_6 := Qd BK164.out 6
      go_wp2
      refine bodyPost_ret (results_ct rfl _ _ gb164 40 #[.string (⟨#[]⟩ : ByteArray), .int .i64 0, .int .i64 0, .int .i64 0, .int .i64 0, .int .i32 0, .string (⟨#[]⟩ : ByteArray)] (0, 0) _ rfl (by (with_reducible repeat (first|refine Qa ?_ _|refine Qb ?_|refine Q7 ?_ _)); refine blk_put (cs := #[.string (⟨#[]⟩ : ByteArray), .int .i64 0, .int .i64 0, .int .i64 0, .int .i64 0, .int .i32 0, .string (⟨#[]⟩ : ByteArray)]) ?_ 6 _ rfl; (with_reducible repeat (first|refine Qa ?_ _|refine Qb ?_|refine Q7 ?_ _)); refine blk_put (cs := #[.string (⟨#[]⟩ : ByteArray), .int .i64 0, .int .i64 0, .int .i64 0, .int .i64 0, .int .i32 0, .string (⟨#[]⟩ : ByteArray)]) ?_ 5 _ rfl; (with_reducible repeat (first|refine Qa ?_ _|refine Qb ?_|refine Q7 ?_ _)); refine blk_put (cs := #[.string (⟨#[]⟩ : ByteArray), .int .i64 0, .int .i64 0, .int .i64 0, .int .i64 0, .int .i32 0, .string (⟨#[]⟩ : ByteArray)]) ?_ 4 _ rfl; (with_reducible repeat (first|refine Qa ?_ _|refine Qb ?_|refine Q7 ?_ _)); refine blk_put (cs := #[.string (⟨#[]⟩ : ByteArray), .int .i64 0, .int .i64 0, .int .i64 0, .int .i64 0, .int .i32 0, .string (⟨#[]⟩ : ByteArray)]) ?_ 3 _ rfl; (with_reducible repeat (first|refine Qa ?_ _|refine Qb ?_|refine Q7 ?_ _)); refine blk_put (cs := #[.string (⟨#[]⟩ : ByteArray), .int .i64 0, .int .i64 0, .int .i64 0, .int .i64 0, .int .i32 0, .string (⟨#[]⟩ : ByteArray)]) ?_ 2 _ rfl; (with_reducible repeat (first|refine Qa ?_ _|refine Qb ?_|refine Q7 ?_ _)); refine blk_put (cs := #[.string (⟨#[]⟩ : ByteArray), .int .i64 0, .int .i64 0, .int .i64 0, .int .i64 0, .int .i32 0, .string (⟨#[]⟩ : ByteArray)]) ?_ 1 _ rfl; (with_reducible repeat (first|refine Qa ?_ _|refine Qb ?_|refine Q7 ?_ _)); refine blk_put (cs := #[.string (⟨#[]⟩ : ByteArray), .int .i64 0, .int .i64 0, .int .i64 0, .int .i64 0, .int .i32 0, .string (⟨#[]⟩ : ByteArray)]) ?_ 0 _ rfl; (with_reducible repeat (first|refine Qa ?_ _|refine Qb ?_|refine Q7 ?_ _)); exact BK164.out) Tryz.underlying40 rfl (by kernel_rfl)) rfl ?_
      exact ⟨by first|rfl|(simp [errW_none, errW_some] <;> rfl)|(simp [*, errW_none, errW_some] <;> rfl), by repeat (first|(with_reducible first|exact HB.out|apply Q8|apply Q5|apply Q9|refine Q6 ?_ GE164.out)|exact HB.out)⟩
     ·replace c21 := Bool.eq_false_iff.mpr c21
      subst c21
      rw [if_neg (show ¬ (false = true) by decide)] at H
      replace H := Qi H
      obtain ⟨⟨t174, t175, t176, t177, t178, t179, t180, t181⟩, A230, H⟩ := H
      try dsimp only at H
      have A23 := Q4 A230
      clear A230
      go_wp2_with ((with_reducible refine gate_dst (N := 45) rfl ?_); (try (refine gate_guard (by rfl) ?_; dsimp only)); refine box_event ?hg (N := 45) ?hd (cs := #[.string (⟨#[]⟩ : ByteArray), .int .i64 t172, .int .i64 0, .int .i64 0, .int .i64 0, .int .i32 0, .string (⟨#[]⟩ : ByteArray), .bool true]) (t := 75) ?hr ?_; (case hd => rfl); (case hg => rfl); (case hr => first|(go_simp; done)|(go_simp; rfl)); intro gb182 hg w29 hbox hb; have n0_ := Q4 (Qo (g := gb164) (o := .cells #[.string (⟨#[]⟩ : ByteArray), .int .i64 0, .int .i64 0, .int .i64 0, .int .i64 0, .int .i32 0, .string (⟨#[]⟩ : ByteArray)] 40 (0, 0)) (bK BK164) hb); have n1_ := Q4 (Qg (by repeat (first|(with_reducible first|exact HB.out|apply Q8|apply Q5|apply Q9|refine Q6 ?_ GE164.out)|exact HB.out)) hb); have n2_ := Q4 (hbox); have n3_ := Q4 ((by rw [hg]; exact (below_size (by repeat (first|(with_reducible first|exact HB.out|apply Q8|apply Q5|apply Q9|refine Q6 ?_ GE164.out)|exact HB.out))) : w.heap.size ≤ gb182)); have n4_ := Q4 ((by rw [hg]; exact (below_size (by repeat (first|(with_reducible first|exact HB.out|apply Q8|apply Q5|apply Q9|refine Q6 ?_ GE164.out)|exact HB.out))) : w.heap.size ≤ gb182)); have n5_ := Q4 ((by rw [hg]; exact Nat.ne_of_lt (blk_lt (g := gb164) (o := .cells #[.string (⟨#[]⟩ : ByteArray), .int .i64 0, .int .i64 0, .int .i64 0, .int .i64 0, .int .i32 0, .string (⟨#[]⟩ : ByteArray)] 40 (0, 0)) (bK BK164)) : gb164 ≠ gb182)); have n6_ := Q4 ((by rw [hg]; exact Nat.ne_of_gt (blk_lt (g := gb164) (o := .cells #[.string (⟨#[]⟩ : ByteArray), .int .i64 0, .int .i64 0, .int .i64 0, .int .i64 0, .int .i32 0, .string (⟨#[]⟩ : ByteArray)] 40 (0, 0)) (bK BK164)) : gb182 ≠ gb164)); have n7_ := Q4 (Kd.R_below HO170.out hb); have n8_ := Q4 (box_lt hbox); clear BK164; clear HB; clear HO170; have HO170 := n7_; have HLT := n8_; clear n7_ n8_; have BK164 := n0_; have HB := n1_; have BK182 := n2_; have GW182 := n3_; have GE182 := n4_; have NB164_182 := n5_; have NB182_164 := n6_; clear n0_ n1_ n2_ n3_ n4_ n5_ n6_; clear hb hbox hg)
      have h164 := box_lt BK164.out
      have hwl := HB.out.size
      go_loopw [10] (fun v wr => ∃ (i : Nat) (s0 : ByteArray) (s1 s2 s3 s4 s5 : Int) (s6 : ByteArray) (s7 : Bool), i ≤ t173.size ∧ partsUpto t168 t173 t172 i = some (s0, s1, s2, s3, s4, s5, s6, s7) ∧ Aside0 (wr.heap[w29.heap.size]? = some (.stringIter t173 i)) ∧ Aside0 (IsS75 w wr gb182 s0 s1 s2 s3 s4 s5 s6 s7) ∧ Aside0 (Below w.heap.size w wr) ∧ Aside0 (wr.heap[gb164]? = some (.cells #[.string (⟨#[]⟩ : ByteArray), .int .i64 0, .int .i64 0, .int .i64 0, .int .i64 0, .int .i32 0, .string (⟨#[]⟩ : ByteArray)] 40 (0, 0))) ∧ Aside0 (Kd.R Kd.string 9 wr w.heap.size (fun k => k ≠ gb182 ∧ k ≠ w29.heap.size) (.slice (some ad171) t168.length co17) t168)) (fun _ wr => t173.size - wr.iterPos w29.heap.size)
      case atStart =>
       have hI : IsS75 w w29 gb182 ⟨#[]⟩ t172 0 0 0 0 ⟨#[]⟩ true := ⟨BK182.out, GW182.out⟩
       refine ⟨0, _, _, _, _, _, _, _, _, Nat.zero_le _, rfl, ⟨blk_new w29 _⟩, ⟨hI.alloc _⟩, ⟨Q8 HB.out _⟩, ⟨Q7 BK164.out _⟩, ⟨?_⟩⟩
       have h1 := Kd.R_bound (hI.apart HO170.out (by intro q hq; rcases List.mem_cons.1 hq with rfl | h; decide; cases h))
       exact Kd.R_alloc (Kd.R_mono h1 fun k hk => ⟨hk.1.2, by have := hk.2.2.1; omega⟩) _
      obtain ⟨i, s0, s1, s2, s3, s4, s5, s6, s7, hi, hps, HK, HI, HBr, HZ, HW⟩ := hrel
      by_cases hlt : i < t173.size
      ·obtain ⟨h1, h2, ⟨q0, q1, q2, q3, q4, q5, q6, q7⟩, hs', hpr⟩ := parts_step A23.out hlt hps
       have hb : t173[i]'hlt = t173.data.getD i 0 := by
        show t173.data[i]'_ = _
        rw [Array.getD_eq_getD_getElem?, Array.getElem?_eq_getElem hlt]; rfl
       have hnx := Lib.run_next_ascii_at (P := Tryz.prog) wr w29.heap.size t173 i 0 HK.out hlt (by rw [hb]; exact h2)
       rw [hb] at hnx
       obtain ⟨w1, hw1⟩ : ∃ w1, w1 = wr.iterAt w29.heap.size t173 (i + 1) := ⟨_, rfl⟩
       rw [← hw1] at hnx
       have HK1 : Aside0 (w1.heap[w29.heap.size]? = some (.stringIter t173 (i + 1))) := ⟨by rw [hw1]; exact Lib.iterAt_heap _ _ _ _ _ HK.out⟩
       have hg182 := HLT.out
       have HI1 : Aside0 (IsS75 w w1 gb182 s0 s1 s2 s3 s4 s5 s6 s7) := ⟨by rw [hw1, Lib.iterAt_other _ _ _ _ _ (by omega)]; exact HI.out.1, HI.out.2⟩
       have HB1 : Aside0 (Below w.heap.size w w1) := ⟨by rw [hw1]; exact Lib.below_iterAt HBr.out hwl _ _⟩
       have HZ1 : Aside0 (w1.heap[gb164]? = some (.cells #[.string (⟨#[]⟩ : ByteArray), .int .i64 0, .int .i64 0, .int .i64 0, .int .i64 0, .int .i32 0, .string (⟨#[]⟩ : ByteArray)] 40 (0, 0))) := ⟨by rw [hw1, Lib.iterAt_other _ _ _ _ _ (by omega)]; exact HZ.out⟩
       have HW1 : Aside0 (Kd.R Kd.string 9 w1 w.heap.size (fun k => k ≠ gb182 ∧ k ≠ w29.heap.size) (.slice (some ad171) t168.length co17) t168) := ⟨by rw [hw1]; exact Kd.R_move HW.out fun k hk => Lib.iterAt_other _ _ _ _ _ hk.2⟩
       obtain ⟨ad, e1, hx⟩ := Kd.at_string (Kd.R_reads' HW1.out).2.2 ((i + 1 : Nat) : Int) (by omega) (by omega)
       cases e1
       have hmx := Kd.C_max (Kd.R_reads' HW1.out).2.2
       rw [Int.toNat_natCast] at hx
       have hx2 := hx
       unfold Addr.add at hx2
       rw [if_neg (Nat.succ_ne_zero i)] at hx2
       unfold partR at hpr
       generalize rdOf ByteArray.empty t168 ((i + 1 : Nat) : Int) = t at hx hx2 hpr
       generalize ((t173.data.getD i 0).toNat : Int) = c at hnx hpr
       have HP := Q4 hpr
       have HPS := Q4 hs'
       have HW1e := Q4 hw1
       clear hpr hs' hw1 hb h2 hps
       go_wp2_with (go_at_call 32; (with_reducible refine (asm_reader_part.calls gb182 s0 s1 s2 s3 s4 s5 s6 s7 c t q0 q1 q2 q3 q4 q5 q6 q7 w _ HTAB.out HI1.out HB1.out HP.out).mono ?_); rintro e_ w2 ⟨rfl, hi2, hb2, hk2⟩)
       go_roundw
       case rel => exact ⟨i + 1, q0, q1, q2, q3, q4, q5, q6, q7, by omega, HPS.out, ⟨(hk2.2 _ (box_lt HK1.out) (by omega) (by simp)).trans HK1.out⟩, ⟨hi2⟩, ⟨hb2⟩, ⟨(hk2.2 _ (box_lt HZ1.out) NB164_182.out (by simp)).trans HZ1.out⟩, ⟨Kd.R_keep HW1.out hk2 fun k hk => hk.1⟩⟩
       case measure =>
        have m1 : wr.iterPos w29.heap.size = i := by unfold World.iterPos; rw [HK.out]
        have m2 : w2.iterPos w29.heap.size = i + 1 := by unfold World.iterPos; rw [(hk2.2 _ (box_lt HK1.out) (by omega) (by simp)).trans HK1.out]
        simp only [m1, m2]
        omega
      have hend : i = t173.size := by omega
      subst hend
      have hnx := Lib.run_next_end_at (P := Tryz.prog) wr w29.heap.size t173 t173.size 0 HK.out (Nat.lt_irrefl _)
      have hh := A23.out.symm.trans hps
      simp only [Option.some.injEq, Prod.mk.injEq] at hh
      obtain ⟨rfl, rfl, rfl, rfl, rfl, rfl, rfl, rfl⟩ := hh
      clear BK164 BK182 HB HO170
      have BK164 := HZ
      have BK182 := Q4 HI.out.1
      have HB := HBr
      clear hps HZ HBr
      go_wp2

      by_cases c24 : t181 = true
      ·subst c24
       rw [if_pos rfl] at H
       replace H := Qi H
       obtain ⟨t183, A250, H⟩ := H
       try dsimp only at H
       have A25 := Q4 A250
       clear A250
       by_cases c26 : t183 = true
       ·subst c26
        rw [if_pos rfl] at H
        replace H := Qi H
        obtain ⟨t184, A270, H⟩ := H
        try dsimp only at H
        have A27 := Q4 A270
        clear A270
        simp only [Option.some.injEq, Prod.mk.injEq] at H
        obtain ⟨rfl, rfl, rfl, rfl, rfl, rfl, rfl, rfl⟩ := H
        have n0_ := Q4 (Qb BK164.out)
        have n1_ := Q4 (Qb BK182.out)
        have n2_ := Q4 (Q9 HB.out)
        clear BK164
        clear BK182
        clear HB
        have BK164 := n0_
        have BK182 := n1_
        have HB := n2_
        clear n0_ n1_ n2_
        refine start_ (n := 26) (S := fun w' => w'.cell? ⟨gb182, 0, none⟩ = some (.string t174) ∧ w'.cell? ⟨gb182, 1, none⟩ = some (.int .i64 t175) ∧ w'.cell? ⟨gb182, 2, none⟩ = some (.int .i64 t176) ∧ w'.cell? ⟨gb182, 3, none⟩ = some (.int .i64 t177) ∧ w'.cell? ⟨gb182, 4, none⟩ = some (.int .i64 t178) ∧ w'.cell? ⟨gb182, 5, none⟩ = some (.int .i32 t179) ∧ w'.cell? ⟨gb182, 6, none⟩ = some (.string t180) ∧ w'.cell? ⟨gb182, 7, none⟩ = some (.bool true)) (ds := []) (pm 26 0) (by kernel_rfl) rfl rfl ⟨(Qe BK182.out 0).trans rfl, (Qe BK182.out 1).trans rfl, (Qe BK182.out 2).trans rfl, (Qe BK182.out 3).trans rfl, (Qe BK182.out 4).trans rfl, (Qe BK182.out 5).trans rfl, (Qe BK182.out 6).trans rfl, (Qe BK182.out 7).trans rfl⟩ (fun hHeld => ?_); refine with_tabW asm_read.tab14 asm_read.bits14 (fun HT_ HW_ => ?_)
        generalize wr.drew = w30 at BK164 BK182 HB hHeld ⊢
        refine pure_ (i := 0) (N := some 60) (v := ?_) (a' := ?_) (pm 26 1) rfl rfl (Qp HT_.out (by kernel_rfl)) (fun _ _ _ h => h) (Or.inl ⟨by rfl, ?_⟩) ?_ ?_
        rotate_left
        ·intro w'
         go_simp
         with_reducible rfl
        rotate_left
        ·simp only [Act.put, Q1,Q2,Q3, i64_w, i32_w]
         rfl
        refine pure_ (i := 1) (N := some 61) (v := ?_) (a' := ?_) (pm 26 2) rfl rfl (Qp HT_.out (by kernel_rfl)) (fun _ _ _ h => h) (Or.inl ⟨by rfl, ?_⟩) ?_ ?_
        rotate_left
        ·intro w'
         go_simp
         with_reducible rfl
        rotate_left
        ·simp only [Act.put, Q1,Q2,Q3, i64_w, i32_w]
         rfl
        refine pure_ (i := 2) (N := some 62) (v := ?_) (a' := ?_) (pm 26 3) rfl rfl (Qp HT_.out (by kernel_rfl)) (fun _ _ _ h => h) (Or.inl ⟨by rfl, ?_⟩) ?_ ?_
        rotate_left
        ·intro w'
         go_simp
         with_reducible rfl
        rotate_left
        ·simp only [Act.put, Q1,Q2,Q3, i64_w, i32_w]
         rfl
        refine pure_ (i := 4) (N := some 64) (v := ?_) (a' := ?_) #[true,true,true,false,true,false,false,false,false,false,false,false,false,false,false,false,false,false,false,false,false,false,false,false,false,false] rfl rfl (Qp HT_.out (by kernel_rfl)) (fun _ _ _ h => h) (Or.inl ⟨by rfl, ?_⟩) ?_ ?_
        rotate_left
        ·intro w'
         go_simp
         with_reducible rfl
        rotate_left
        ·simp only [Act.put, Q1,Q2,Q3, i64_w, i32_w]
         rfl
        refine pure_ (i := 5) (N := some 65) (v := ?_) (a' := ?_) #[true,true,true,false,true,true,false,false,false,false,false,false,false,false,false,false,false,false,false,false,false,false,false,false,false,false] rfl rfl (Qp HT_.out (by kernel_rfl)) (fun _ _ _ h => h) (Or.inl ⟨by rfl, ?_⟩) ?_ ?_
        rotate_left
        ·intro w'
         go_simp
         with_reducible rfl
        rotate_left
        ·simp only [Act.put, Q1,Q2,Q3, i64_w, i32_w]
         rfl
        refine pure_ (i := 6) (N := some 66) (v := ?_) (a' := ?_) #[true,true,true,false,true,true,true,false,false,false,false,false,false,false,false,false,false,false,false,false,false,false,false,false,false,false] rfl rfl (Qp HT_.out (by kernel_rfl)) (fun _ _ _ h => h) (Or.inl ⟨by rfl, ?_⟩) ?_ ?_
        rotate_left
        ·intro w'
         go_simp
         with_reducible rfl
        rotate_left
        ·simp only [Act.put, Q1,Q2,Q3, i64_w, i32_w]
         rfl
        refine take_ (i := 3) (N := some 63) (v := ?_) (a' := ?_) (pm 26 7) rfl rfl (take_ofW HT_.out HW_.out (by kernel_rfl)) (fun _ _ _ h => h) (Or.inl ⟨by rfl, ?_⟩) hHeld ?_ ?_
        rotate_left
        ·rintro w' ⟨s0, s1, s2, s3, s4, s5, s6, s7⟩
         go_simp
         with_reducible rfl
        rotate_left
        ·simp only [Act.put, Q1,Q2,Q3, i64_w, i32_w]
         rfl
        refine take_ (i := 7) (N := some 67) (v := ?_) (a' := ?_) (pm 26 8) rfl rfl (take_ofW HT_.out HW_.out (by kernel_rfl)) (fun _ _ _ h => h) (Or.inl ⟨by rfl, ?_⟩) hHeld ?_ ?_
        rotate_left
        ·rintro w' ⟨s0, s1, s2, s3, s4, s5, s6, s7⟩
         go_simp
         with_reducible rfl
        rotate_left
        ·simp only [Act.put, Q1,Q2,Q3, i64_w, i32_w]
         rfl
        refine pure_ (i := 8) (N := some 68) (v := ?_) (a' := ?_) (pm 26 9) rfl rfl (Qp HT_.out (by kernel_rfl)) (fun _ _ _ h => h) (Or.inl ⟨by rfl, ?_⟩) ?_ ?_
        rotate_left
        ·intro w'
         go_simp
         with_reducible rfl
        rotate_left
        ·simp only [Act.put, Q1,Q2,Q3, i64_w, i32_w]
         rfl
        refine pure_ (i := 9) (N := some 69) (v := ?_) (a' := ?_) (pm 26 10) rfl rfl (Qp HT_.out (by kernel_rfl)) (fun _ _ _ h => h) (Or.inl ⟨by rfl, ?_⟩) ?_ ?_
        rotate_left
        ·intro w'
         go_simp
         with_reducible rfl
        rotate_left
        ·simp only [Act.put, Q1,Q2,Q3, i64_w, i32_w]
         rfl
        refine pure_ (i := 10) (N := some 70) (v := ?_) (a' := ?_) (pm 26 11) rfl rfl (Qp HT_.out (by kernel_rfl)) (fun _ _ _ h => h) (Or.inl ⟨by rfl, ?_⟩) ?_ ?_
        rotate_left
        ·intro w'
         go_simp
         with_reducible rfl
        rotate_left
        ·simp only [Act.put, Q1,Q2,Q3, i64_w, i32_w]
         rfl
        refine pure_ (i := 11) (N := some 71) (v := ?_) (a' := ?_) (pm 26 12) rfl rfl (Qp HT_.out (by kernel_rfl)) (fun _ _ _ h => h) (Or.inl ⟨by rfl, ?_⟩) ?_ ?_
        rotate_left
        ·intro w'
         go_simp
         with_reducible rfl
        rotate_left
        ·simp only [Act.put, Q1,Q2,Q3, i64_w, i32_w]
         rfl
        refine take_ (i := 12) (N := some 72) (v := ?_) (a' := ?_) (pm 26 13) rfl rfl (take_ofW HT_.out HW_.out (by kernel_rfl)) (fun _ _ _ h => h) (Or.inl ⟨by rfl, ?_⟩) hHeld ?_ ?_
        rotate_left
        ·rintro w' ⟨s0, s1, s2, s3, s4, s5, s6, s7⟩
         go_simp
         with_reducible rfl
        rotate_left
        ·simp only [Act.put, Q1,Q2,Q3, i64_w, i32_w]
         rfl
        refine one_ (i := 13) (N := some 73) (pm 26 14) rfl rfl (one_of HT_.out (by kernel_rfl)) (by decide) (fun K hK => ?_)
        refine goes_ Tryz.func17 (by kernel_rfl) rfl #[.agg #[.string t174, .int .i64 t175, .int .i64 t176, .int .i64 t177, .int .i64 t178, .int .i32 t179, .string t180]] (by rfl) rfl rfl (by (try simp only [List.map_toArray, List.map_cons, List.map_nil]); first | done|rfl|(simp only [List.length_drop, List.length_take]; rfl)) ?_
        with_reducible refine (asm_good.calls t174 t175 t176 t177 t178 t179 t180 true _ A25.out).mono ?_
        rintro e w31 ⟨rfl, hb⟩
        refine ⟨_, rfl, ?_⟩
        have n0_ := Q4 (Qo (g := gb164) (o := .cells #[.string (⟨#[]⟩ : ByteArray), .int .i64 0, .int .i64 0, .int .i64 0, .int .i64 0, .int .i32 0, .string (⟨#[]⟩ : ByteArray)] 40 (0, 0)) (bK BK164) hb)
        have n1_ := Q4 (Qo (g := gb182) (o := .cells #[.string t174, .int .i64 t175, .int .i64 t176, .int .i64 t177, .int .i64 t178, .int .i32 t179, .string t180, .bool true] 75 (0, 0)) (bK BK182) hb)
        have n2_ := Q4 (Qg (by repeat (first|(with_reducible first|exact HB.out|apply Q8|apply Q5|apply Q9|refine Q6 ?_ GE164.out|refine Q6 ?_ GE182.out)|exact HB.out)) hb)
        clear BK164
        clear BK182
        clear HB
        have BK164 := n0_
        have BK182 := n1_
        have HB := n2_
        clear n0_ n1_ n2_
        (try clear hb)
        (try clear hb2)
        (try clear hk)
        (try clear hi)
        refine hK.out _ _ ⟨(Qe BK182.out 0).trans rfl, (Qe BK182.out 1).trans rfl, (Qe BK182.out 2).trans rfl, (Qe BK182.out 3).trans rfl, (Qe BK182.out 4).trans rfl, (Qe BK182.out 5).trans rfl, (Qe BK182.out 6).trans rfl, (Qe BK182.out 7).trans rfl⟩ (fun hHeld => ?_)
        clear hK K
        refine norm_ (a' := ?_) ?_ ?_
        rotate_left
        ·show Act.put _ (some 73) _ = _
         simp only [Act.put, Q1,Q2,Q3, i64_w, i32_w]
         rfl
        refine pure_ (i := 14) (N := some 74) (v := ?_) (a' := ?_) (pm 26 15) rfl rfl (Qp HT_.out (by kernel_rfl)) (fun _ _ _ h => h) (Or.inl ⟨by rfl, ?_⟩) ?_ ?_
        rotate_left
        ·intro w'
         go_simp
         with_reducible rfl
        rotate_left
        ·simp only [Act.put, Q1,Q2,Q3, i64_w, i32_w]
         rfl
        refine pure_ (i := 15) (N := some 75) (v := ?_) (a' := ?_) (pm 26 16) rfl rfl (Qp HT_.out (by kernel_rfl)) (fun _ _ _ h => h) (Or.inl ⟨by rfl, ?_⟩) ?_ ?_
        rotate_left
        ·intro w'
         go_simp
         with_reducible rfl
        rotate_left
        ·simp only [Act.put, Q1,Q2,Q3, i64_w, i32_w]
         rfl
        refine pure_ (i := 16) (N := some 76) (v := ?_) (a' := ?_) (pm 26 17) rfl rfl (Qp HT_.out (by kernel_rfl)) (fun _ _ _ h => h) (Or.inl ⟨by rfl, ?_⟩) ?_ ?_
        rotate_left
        ·intro w'
         go_simp
         with_reducible rfl
        rotate_left
        ·simp only [Act.put, Q1,Q2,Q3, i64_w, i32_w]
         rfl
        refine pure_ (i := 17) (N := some 77) (v := ?_) (a' := ?_) (pm 26 18) rfl rfl (Qp HT_.out (by kernel_rfl)) (fun _ _ _ h => h) (Or.inl ⟨by rfl, ?_⟩) ?_ ?_
        rotate_left
        ·intro w'
         go_simp
         with_reducible rfl
        rotate_left
        ·simp only [Act.put, Q1,Q2,Q3, i64_w, i32_w]
         rfl
        refine pure_ (i := 18) (N := some 78) (v := ?_) (a' := ?_) (pm 26 19) rfl rfl (Qp HT_.out (by kernel_rfl)) (fun _ _ _ h => h) (Or.inl ⟨by rfl, ?_⟩) ?_ ?_
        rotate_left
        ·intro w'
         go_simp
         with_reducible rfl
        rotate_left
        ·simp only [Act.put, Q1,Q2,Q3, i64_w, i32_w]
         rfl
        refine pure_ (i := 21) (N := some 81) (v := ?_) (a' := ?_) #[true,true,true,true,true,true,true,true,true,true,true,true,true,true,true,true,true,true,true,false,false,true,false,false,false,false] rfl rfl (Qp HT_.out (by kernel_rfl)) (fun _ _ _ h => h) (Or.inl ⟨by rfl, ?_⟩) ?_ ?_
        rotate_left
        ·intro w'
         go_simp
         with_reducible rfl
        rotate_left
        ·simp only [Act.put, Q1,Q2,Q3, i64_w, i32_w]
         rfl
        refine take_ (i := 19) (N := some 79) (v := ?_) (a' := ?_) #[true,true,true,true,true,true,true,true,true,true,true,true,true,true,true,true,true,true,true,true,false,true,false,false,false,false] rfl rfl (take_ofW HT_.out HW_.out (by kernel_rfl)) (fun _ _ _ h => h) (Or.inl ⟨by rfl, ?_⟩) hHeld ?_ ?_
        rotate_left
        ·rintro w' ⟨s0, s1, s2, s3, s4, s5, s6, s7⟩
         go_simp
         with_reducible rfl
        rotate_left
        ·simp only [Act.put, Q1,Q2,Q3, i64_w, i32_w]
         rfl
        refine one_ (i := 20) (N := some 80) (pm 26 22) rfl rfl (one_of HT_.out (by kernel_rfl)) (by decide) (fun K hK => ?_)
        refine goes_ Tryz.func19 (by kernel_rfl) rfl #[.agg #[.string t174, .int .i64 t175, .int .i64 t176, .int .i64 t177, .int .i64 t178, .int .i32 t179, .string t180]] (by rfl) rfl rfl (by (try simp only [List.map_toArray, List.map_cons, List.map_nil]); first | done|rfl|(simp only [List.length_drop, List.length_take]; rfl)) ?_
        with_reducible refine (asm_text.calls t174 t175 t176 t177 t178 t179 t180 t184 _ (env_mono HTAB.out (by repeat (first|(with_reducible first|exact HB.out|apply Q8|apply Q5|apply Q9|refine Q6 ?_ GE164.out|refine Q6 ?_ GE182.out)|exact HB.out))) A27.out).mono ?_
        rintro e w32 ⟨rfl, hb⟩
        refine ⟨_, rfl, ?_⟩
        have n0_ := Q4 (Qo (g := gb164) (o := .cells #[.string (⟨#[]⟩ : ByteArray), .int .i64 0, .int .i64 0, .int .i64 0, .int .i64 0, .int .i32 0, .string (⟨#[]⟩ : ByteArray)] 40 (0, 0)) (bK BK164) hb)
        have n1_ := Q4 (Qo (g := gb182) (o := .cells #[.string t174, .int .i64 t175, .int .i64 t176, .int .i64 t177, .int .i64 t178, .int .i32 t179, .string t180, .bool true] 75 (0, 0)) (bK BK182) hb)
        have n2_ := Q4 (Qg (by repeat (first|(with_reducible first|exact HB.out|apply Q8|apply Q5|apply Q9|refine Q6 ?_ GE164.out|refine Q6 ?_ GE182.out)|exact HB.out)) hb)
        clear BK164
        clear BK182
        clear HB
        have BK164 := n0_
        have BK182 := n1_
        have HB := n2_
        clear n0_ n1_ n2_
        (try clear hb)
        (try clear hb2)
        (try clear hk)
        (try clear hi)
        refine hK.out _ _ ⟨(Qe BK182.out 0).trans rfl, (Qe BK182.out 1).trans rfl, (Qe BK182.out 2).trans rfl, (Qe BK182.out 3).trans rfl, (Qe BK182.out 4).trans rfl, (Qe BK182.out 5).trans rfl, (Qe BK182.out 6).trans rfl, (Qe BK182.out 7).trans rfl⟩ (fun hHeld => ?_)
        clear hK K
        refine norm_ (a' := ?_) ?_ ?_
        rotate_left
        ·show Act.put _ (some 80) _ = _
         simp only [Act.put, Q1,Q2,Q3, i64_w, i32_w]
         rfl
        refine pure_ (i := 22) (N := some 82) (v := ?_) (a' := ?_) (pm 26 23) rfl rfl (Qp HT_.out (by kernel_rfl)) (fun _ _ _ h => h) (Or.inl ⟨by rfl, ?_⟩) ?_ ?_
        rotate_left
        ·intro w'
         go_simp
         with_reducible rfl
        rotate_left
        ·simp only [Act.put, Q1,Q2,Q3, i64_w, i32_w]
         rfl
        refine pure_ (i := 23) (N := some 83) (v := ?_) (a' := ?_) (pm 26 24) rfl rfl (Qp HT_.out (by kernel_rfl)) (fun _ _ _ h => h) (Or.inl ⟨by rfl, ?_⟩) ?_ ?_
        rotate_left
        ·intro w'
         go_simp
         with_reducible rfl
        rotate_left
        ·simp only [Act.put, Q1,Q2,Q3, i64_w, i32_w]
         rfl
        refine one_ (i := 24) (N := none) (pm 26 25) rfl rfl (one_of HT_.out (by kernel_rfl)) (by decide) (fun K hK => ?_)
        have hs33 : w32.cell? ⟨gb164, 0, none⟩ = some (.string (⟨#[]⟩ : ByteArray)) := (Qe BK164.out 0).trans rfl
        have hfs33 := Qd BK164.out 0
        have hns33_1 := NB182_164.out
        have hms33_1 := NB164_182.out
        have hs34 : w32.cell? ⟨gb164, 1, none⟩ = some (.int .i64 0) := (Qe BK164.out 1).trans rfl
        have hfs34 := Qd BK164.out 1
        have hns34_1 := NB182_164.out
        have hms34_1 := NB164_182.out
        have hs35 : w32.cell? ⟨gb164, 2, none⟩ = some (.int .i64 0) := (Qe BK164.out 2).trans rfl
        have hfs35 := Qd BK164.out 2
        have hns35_1 := NB182_164.out
        have hms35_1 := NB164_182.out
        have hs36 : w32.cell? ⟨gb164, 3, none⟩ = some (.int .i64 0) := (Qe BK164.out 3).trans rfl
        have hfs36 := Qd BK164.out 3
        have hns36_1 := NB182_164.out
        have hms36_1 := NB164_182.out
        have hs37 : w32.cell? ⟨gb164, 4, none⟩ = some (.int .i64 0) := (Qe BK164.out 4).trans rfl
        have hfs37 := Qd BK164.out 4
        have hns37_1 := NB182_164.out
        have hms37_1 := NB164_182.out
        have hs38 : w32.cell? ⟨gb164, 5, none⟩ = some (.int .i32 0) := (Qe BK164.out 5).trans rfl
        have hfs38 := Qd BK164.out 5
        have hns38_1 := NB182_164.out
        have hms38_1 := NB164_182.out
        have hs39 : w32.cell? ⟨gb164, 6, none⟩ = some (.string (⟨#[]⟩ : ByteArray)) := (Qe BK164.out 6).trans rfl
        have hfs39 := Qd BK164.out 6
        have hns39_1 := NB182_164.out
        have hms39_1 := NB164_182.out
        refine skip_ (w1 := ?_) (by rfl) rfl ?_ ?_
        rotate_left
        ·go_simp
         rfl
        refine hK.out _ _ ⟨((Qf (p := ⟨gb164, _, none⟩) NB182_164.out _).trans (((Qf (p := ⟨gb164, _, none⟩) NB182_164.out _).trans (((Qf (p := ⟨gb164, _, none⟩) NB182_164.out _).trans (((Qf (p := ⟨gb164, _, none⟩) NB182_164.out _).trans (((Qf (p := ⟨gb164, _, none⟩) NB182_164.out _).trans (((Qf (p := ⟨gb164, _, none⟩) NB182_164.out _).trans (((Qf (p := ⟨gb164, _, none⟩) NB182_164.out _).trans (hHeld.1)))))))))))))), ((Qf (p := ⟨gb164, _, none⟩) NB182_164.out _).trans (((Qf (p := ⟨gb164, _, none⟩) NB182_164.out _).trans (((Qf (p := ⟨gb164, _, none⟩) NB182_164.out _).trans (((Qf (p := ⟨gb164, _, none⟩) NB182_164.out _).trans (((Qf (p := ⟨gb164, _, none⟩) NB182_164.out _).trans (((Qf (p := ⟨gb164, _, none⟩) NB182_164.out _).trans (((Qf (p := ⟨gb164, _, none⟩) NB182_164.out _).trans (hHeld.2.1)))))))))))))), ((Qf (p := ⟨gb164, _, none⟩) NB182_164.out _).trans (((Qf (p := ⟨gb164, _, none⟩) NB182_164.out _).trans (((Qf (p := ⟨gb164, _, none⟩) NB182_164.out _).trans (((Qf (p := ⟨gb164, _, none⟩) NB182_164.out _).trans (((Qf (p := ⟨gb164, _, none⟩) NB182_164.out _).trans (((Qf (p := ⟨gb164, _, none⟩) NB182_164.out _).trans (((Qf (p := ⟨gb164, _, none⟩) NB182_164.out _).trans (hHeld.2.2.1)))))))))))))), ((Qf (p := ⟨gb164, _, none⟩) NB182_164.out _).trans (((Qf (p := ⟨gb164, _, none⟩) NB182_164.out _).trans (((Qf (p := ⟨gb164, _, none⟩) NB182_164.out _).trans (((Qf (p := ⟨gb164, _, none⟩) NB182_164.out _).trans (((Qf (p := ⟨gb164, _, none⟩) NB182_164.out _).trans (((Qf (p := ⟨gb164, _, none⟩) NB182_164.out _).trans (((Qf (p := ⟨gb164, _, none⟩) NB182_164.out _).trans (hHeld.2.2.2.1)))))))))))))), ((Qf (p := ⟨gb164, _, none⟩) NB182_164.out _).trans (((Qf (p := ⟨gb164, _, none⟩) NB182_164.out _).trans (((Qf (p := ⟨gb164, _, none⟩) NB182_164.out _).trans (((Qf (p := ⟨gb164, _, none⟩) NB182_164.out _).trans (((Qf (p := ⟨gb164, _, none⟩) NB182_164.out _).trans (((Qf (p := ⟨gb164, _, none⟩) NB182_164.out _).trans (((Qf (p := ⟨gb164, _, none⟩) NB182_164.out _).trans (hHeld.2.2.2.2.1)))))))))))))), ((Qf (p := ⟨gb164, _, none⟩) NB182_164.out _).trans (((Qf (p := ⟨gb164, _, none⟩) NB182_164.out _).trans (((Qf (p := ⟨gb164, _, none⟩) NB182_164.out _).trans (((Qf (p := ⟨gb164, _, none⟩) NB182_164.out _).trans (((Qf (p := ⟨gb164, _, none⟩) NB182_164.out _).trans (((Qf (p := ⟨gb164, _, none⟩) NB182_164.out _).trans (((Qf (p := ⟨gb164, _, none⟩) NB182_164.out _).trans (hHeld.2.2.2.2.2.1)))))))))))))), ((Qf (p := ⟨gb164, _, none⟩) NB182_164.out _).trans (((Qf (p := ⟨gb164, _, none⟩) NB182_164.out _).trans (((Qf (p := ⟨gb164, _, none⟩) NB182_164.out _).trans (((Qf (p := ⟨gb164, _, none⟩) NB182_164.out _).trans (((Qf (p := ⟨gb164, _, none⟩) NB182_164.out _).trans (((Qf (p := ⟨gb164, _, none⟩) NB182_164.out _).trans (((Qf (p := ⟨gb164, _, none⟩) NB182_164.out _).trans (hHeld.2.2.2.2.2.2.1)))))))))))))), ((Qf (p := ⟨gb164, _, none⟩) NB182_164.out _).trans (((Qf (p := ⟨gb164, _, none⟩) NB182_164.out _).trans (((Qf (p := ⟨gb164, _, none⟩) NB182_164.out _).trans (((Qf (p := ⟨gb164, _, none⟩) NB182_164.out _).trans (((Qf (p := ⟨gb164, _, none⟩) NB182_164.out _).trans (((Qf (p := ⟨gb164, _, none⟩) NB182_164.out _).trans (((Qf (p := ⟨gb164, _, none⟩) NB182_164.out _).trans (hHeld.2.2.2.2.2.2.2))))))))))))))⟩ (fun hHeld => ?_)
        clear hK K
        refine pure_ (i := 25) (N := some 3) (v := ?_) (a' := ?_) (pm 26 26) rfl rfl (Qp HT_.out (by kernel_rfl)) (fun _ _ _ h => h) (Or.inl ⟨by rfl, ?_⟩) ?_ ?_
        rotate_left
        ·intro w'
         go_simp
         with_reducible rfl
        rotate_left
        ·simp only [Act.put, Q1,Q2,Q3, i64_w, i32_w]
         rfl
        refine done_ (done_of HT_.out (by kernel_rfl)) ?_
        try go_wp2
        refine bodyPost_ret (results_ct rfl _ _ gb164 40 #[.string t174, .int .i64 t175, .int .i64 t176, .int .i64 t177, .int .i64 t178, .int .i32 t179, .string t180] (0, 0) _ rfl (by (with_reducible repeat (first|refine Qa ?_ _|refine Qb ?_|refine Q7 ?_ _)); refine blk_put (cs := #[.string t174, .int .i64 t175, .int .i64 t176, .int .i64 t177, .int .i64 t178, .int .i32 t179, .string (⟨#[]⟩ : ByteArray)]) ?_ 6 _ rfl; (with_reducible repeat (first|refine Qa ?_ _|refine Qb ?_|refine Q7 ?_ _)); refine blk_put (cs := #[.string t174, .int .i64 t175, .int .i64 t176, .int .i64 t177, .int .i64 t178, .int .i32 0, .string (⟨#[]⟩ : ByteArray)]) ?_ 5 _ rfl; (with_reducible repeat (first|refine Qa ?_ _|refine Qb ?_|refine Q7 ?_ _)); refine blk_put (cs := #[.string t174, .int .i64 t175, .int .i64 t176, .int .i64 t177, .int .i64 0, .int .i32 0, .string (⟨#[]⟩ : ByteArray)]) ?_ 4 _ rfl; (with_reducible repeat (first|refine Qa ?_ _|refine Qb ?_|refine Q7 ?_ _)); refine blk_put (cs := #[.string t174, .int .i64 t175, .int .i64 t176, .int .i64 0, .int .i64 0, .int .i32 0, .string (⟨#[]⟩ : ByteArray)]) ?_ 3 _ rfl; (with_reducible repeat (first|refine Qa ?_ _|refine Qb ?_|refine Q7 ?_ _)); refine blk_put (cs := #[.string t174, .int .i64 t175, .int .i64 0, .int .i64 0, .int .i64 0, .int .i32 0, .string (⟨#[]⟩ : ByteArray)]) ?_ 2 _ rfl; (with_reducible repeat (first|refine Qa ?_ _|refine Qb ?_|refine Q7 ?_ _)); refine blk_put (cs := #[.string t174, .int .i64 0, .int .i64 0, .int .i64 0, .int .i64 0, .int .i32 0, .string (⟨#[]⟩ : ByteArray)]) ?_ 1 _ rfl; (with_reducible repeat (first|refine Qa ?_ _|refine Qb ?_|refine Q7 ?_ _)); refine blk_put (cs := #[.string (⟨#[]⟩ : ByteArray), .int .i64 0, .int .i64 0, .int .i64 0, .int .i64 0, .int .i32 0, .string (⟨#[]⟩ : ByteArray)]) ?_ 0 _ rfl; (with_reducible repeat (first|refine Qa ?_ _|refine Qb ?_|refine Q7 ?_ _)); exact BK164.out) Tryz.underlying40 rfl (by kernel_rfl)) rfl ?_
        exact ⟨by first|rfl|(simp [errW_none, errW_some] <;> rfl)|(simp [*, errW_none, errW_some] <;> rfl), by repeat (first|(with_reducible first|exact HB.out|apply Q8|apply Q5|apply Q9|refine Q6 ?_ GE164.out|refine Q6 ?_ GE182.out)|exact HB.out)⟩
       ·replace c26 := Bool.eq_false_iff.mpr c26
        subst c26
        rw [if_neg (show ¬ (false = true) by decide)] at H
        simp only [Option.some.injEq, Prod.mk.injEq] at H
        obtain ⟨rfl, rfl, rfl, rfl, rfl, rfl, rfl, rfl⟩ := H
        have n0_ := Q4 (Qb BK164.out)
        have n1_ := Q4 (Qb BK182.out)
        have n2_ := Q4 (Q9 HB.out)
        clear BK164
        clear BK182
        clear HB
        have BK164 := n0_
        have BK182 := n1_
        have HB := n2_
        clear n0_ n1_ n2_
        refine start_ (n := 26) (S := fun w' => w'.cell? ⟨gb182, 0, none⟩ = some (.string t174) ∧ w'.cell? ⟨gb182, 1, none⟩ = some (.int .i64 t175) ∧ w'.cell? ⟨gb182, 2, none⟩ = some (.int .i64 t176) ∧ w'.cell? ⟨gb182, 3, none⟩ = some (.int .i64 t177) ∧ w'.cell? ⟨gb182, 4, none⟩ = some (.int .i64 t178) ∧ w'.cell? ⟨gb182, 5, none⟩ = some (.int .i32 t179) ∧ w'.cell? ⟨gb182, 6, none⟩ = some (.string t180) ∧ w'.cell? ⟨gb182, 7, none⟩ = some (.bool true)) (ds := []) (pm 26 0) (by kernel_rfl) rfl rfl ⟨(Qe BK182.out 0).trans rfl, (Qe BK182.out 1).trans rfl, (Qe BK182.out 2).trans rfl, (Qe BK182.out 3).trans rfl, (Qe BK182.out 4).trans rfl, (Qe BK182.out 5).trans rfl, (Qe BK182.out 6).trans rfl, (Qe BK182.out 7).trans rfl⟩ (fun hHeld => ?_); refine with_tabW asm_read.tab14 asm_read.bits14 (fun HT_ HW_ => ?_)
        generalize wr.drew = w42 at BK164 BK182 HB hHeld ⊢
        refine pure_ (i := 0) (N := some 60) (v := ?_) (a' := ?_) (pm 26 1) rfl rfl (Qp HT_.out (by kernel_rfl)) (fun _ _ _ h => h) (Or.inl ⟨by rfl, ?_⟩) ?_ ?_
        rotate_left
        ·intro w'
         go_simp
         with_reducible rfl
        rotate_left
        ·simp only [Act.put, Q1,Q2,Q3, i64_w, i32_w]
         rfl
        refine pure_ (i := 1) (N := some 61) (v := ?_) (a' := ?_) (pm 26 2) rfl rfl (Qp HT_.out (by kernel_rfl)) (fun _ _ _ h => h) (Or.inl ⟨by rfl, ?_⟩) ?_ ?_
        rotate_left
        ·intro w'
         go_simp
         with_reducible rfl
        rotate_left
        ·simp only [Act.put, Q1,Q2,Q3, i64_w, i32_w]
         rfl
        refine pure_ (i := 2) (N := some 62) (v := ?_) (a' := ?_) (pm 26 3) rfl rfl (Qp HT_.out (by kernel_rfl)) (fun _ _ _ h => h) (Or.inl ⟨by rfl, ?_⟩) ?_ ?_
        rotate_left
        ·intro w'
         go_simp
         with_reducible rfl
        rotate_left
        ·simp only [Act.put, Q1,Q2,Q3, i64_w, i32_w]
         rfl
        refine pure_ (i := 4) (N := some 64) (v := ?_) (a' := ?_) #[true,true,true,false,true,false,false,false,false,false,false,false,false,false,false,false,false,false,false,false,false,false,false,false,false,false] rfl rfl (Qp HT_.out (by kernel_rfl)) (fun _ _ _ h => h) (Or.inl ⟨by rfl, ?_⟩) ?_ ?_
        rotate_left
        ·intro w'
         go_simp
         with_reducible rfl
        rotate_left
        ·simp only [Act.put, Q1,Q2,Q3, i64_w, i32_w]
         rfl
        refine pure_ (i := 5) (N := some 65) (v := ?_) (a' := ?_) #[true,true,true,false,true,true,false,false,false,false,false,false,false,false,false,false,false,false,false,false,false,false,false,false,false,false] rfl rfl (Qp HT_.out (by kernel_rfl)) (fun _ _ _ h => h) (Or.inl ⟨by rfl, ?_⟩) ?_ ?_
        rotate_left
        ·intro w'
         go_simp
         with_reducible rfl
        rotate_left
        ·simp only [Act.put, Q1,Q2,Q3, i64_w, i32_w]
         rfl
        refine pure_ (i := 6) (N := some 66) (v := ?_) (a' := ?_) #[true,true,true,false,true,true,true,false,false,false,false,false,false,false,false,false,false,false,false,false,false,false,false,false,false,false] rfl rfl (Qp HT_.out (by kernel_rfl)) (fun _ _ _ h => h) (Or.inl ⟨by rfl, ?_⟩) ?_ ?_
        rotate_left
        ·intro w'
         go_simp
         with_reducible rfl
        rotate_left
        ·simp only [Act.put, Q1,Q2,Q3, i64_w, i32_w]
         rfl
        refine take_ (i := 3) (N := some 63) (v := ?_) (a' := ?_) (pm 26 7) rfl rfl (take_ofW HT_.out HW_.out (by kernel_rfl)) (fun _ _ _ h => h) (Or.inl ⟨by rfl, ?_⟩) hHeld ?_ ?_
        rotate_left
        ·rintro w' ⟨s0, s1, s2, s3, s4, s5, s6, s7⟩
         go_simp
         with_reducible rfl
        rotate_left
        ·simp only [Act.put, Q1,Q2,Q3, i64_w, i32_w]
         rfl
        refine take_ (i := 7) (N := some 67) (v := ?_) (a' := ?_) (pm 26 8) rfl rfl (take_ofW HT_.out HW_.out (by kernel_rfl)) (fun _ _ _ h => h) (Or.inl ⟨by rfl, ?_⟩) hHeld ?_ ?_
        rotate_left
        ·rintro w' ⟨s0, s1, s2, s3, s4, s5, s6, s7⟩
         go_simp
         with_reducible rfl
        rotate_left
        ·simp only [Act.put, Q1,Q2,Q3, i64_w, i32_w]
         rfl
        refine pure_ (i := 8) (N := some 68) (v := ?_) (a' := ?_) (pm 26 9) rfl rfl (Qp HT_.out (by kernel_rfl)) (fun _ _ _ h => h) (Or.inl ⟨by rfl, ?_⟩) ?_ ?_
        rotate_left
        ·intro w'
         go_simp
         with_reducible rfl
        rotate_left
        ·simp only [Act.put, Q1,Q2,Q3, i64_w, i32_w]
         rfl
        refine pure_ (i := 9) (N := some 69) (v := ?_) (a' := ?_) (pm 26 10) rfl rfl (Qp HT_.out (by kernel_rfl)) (fun _ _ _ h => h) (Or.inl ⟨by rfl, ?_⟩) ?_ ?_
        rotate_left
        ·intro w'
         go_simp
         with_reducible rfl
        rotate_left
        ·simp only [Act.put, Q1,Q2,Q3, i64_w, i32_w]
         rfl
        refine pure_ (i := 10) (N := some 70) (v := ?_) (a' := ?_) (pm 26 11) rfl rfl (Qp HT_.out (by kernel_rfl)) (fun _ _ _ h => h) (Or.inl ⟨by rfl, ?_⟩) ?_ ?_
        rotate_left
        ·intro w'
         go_simp
         with_reducible rfl
        rotate_left
        ·simp only [Act.put, Q1,Q2,Q3, i64_w, i32_w]
         rfl
        refine pure_ (i := 11) (N := some 71) (v := ?_) (a' := ?_) (pm 26 12) rfl rfl (Qp HT_.out (by kernel_rfl)) (fun _ _ _ h => h) (Or.inl ⟨by rfl, ?_⟩) ?_ ?_
        rotate_left
        ·intro w'
         go_simp
         with_reducible rfl
        rotate_left
        ·simp only [Act.put, Q1,Q2,Q3, i64_w, i32_w]
         rfl
        refine take_ (i := 12) (N := some 72) (v := ?_) (a' := ?_) (pm 26 13) rfl rfl (take_ofW HT_.out HW_.out (by kernel_rfl)) (fun _ _ _ h => h) (Or.inl ⟨by rfl, ?_⟩) hHeld ?_ ?_
        rotate_left
        ·rintro w' ⟨s0, s1, s2, s3, s4, s5, s6, s7⟩
         go_simp
         with_reducible rfl
        rotate_left
        ·simp only [Act.put, Q1,Q2,Q3, i64_w, i32_w]
         rfl
        refine one_ (i := 13) (N := some 73) (pm 26 14) rfl rfl (one_of HT_.out (by kernel_rfl)) (by decide) (fun K hK => ?_)
        refine goes_ Tryz.func17 (by kernel_rfl) rfl #[.agg #[.string t174, .int .i64 t175, .int .i64 t176, .int .i64 t177, .int .i64 t178, .int .i32 t179, .string t180]] (by rfl) rfl rfl (by (try simp only [List.map_toArray, List.map_cons, List.map_nil]); first | done|rfl|(simp only [List.length_drop, List.length_take]; rfl)) ?_
        with_reducible refine (asm_good.calls t174 t175 t176 t177 t178 t179 t180 false _ A25.out).mono ?_
        rintro e w43 ⟨rfl, hb⟩
        refine ⟨_, rfl, ?_⟩
        have n0_ := Q4 (Qo (g := gb164) (o := .cells #[.string (⟨#[]⟩ : ByteArray), .int .i64 0, .int .i64 0, .int .i64 0, .int .i64 0, .int .i32 0, .string (⟨#[]⟩ : ByteArray)] 40 (0, 0)) (bK BK164) hb)
        have n1_ := Q4 (Qo (g := gb182) (o := .cells #[.string t174, .int .i64 t175, .int .i64 t176, .int .i64 t177, .int .i64 t178, .int .i32 t179, .string t180, .bool true] 75 (0, 0)) (bK BK182) hb)
        have n2_ := Q4 (Qg (by repeat (first|(with_reducible first|exact HB.out|apply Q8|apply Q5|apply Q9|refine Q6 ?_ GE164.out|refine Q6 ?_ GE182.out)|exact HB.out)) hb)
        clear BK164
        clear BK182
        clear HB
        have BK164 := n0_
        have BK182 := n1_
        have HB := n2_
        clear n0_ n1_ n2_
        (try clear hb)
        (try clear hb2)
        (try clear hk)
        (try clear hi)
        refine hK.out _ _ ⟨(Qe BK182.out 0).trans rfl, (Qe BK182.out 1).trans rfl, (Qe BK182.out 2).trans rfl, (Qe BK182.out 3).trans rfl, (Qe BK182.out 4).trans rfl, (Qe BK182.out 5).trans rfl, (Qe BK182.out 6).trans rfl, (Qe BK182.out 7).trans rfl⟩ (fun hHeld => ?_)
        clear hK K
        refine norm_ (a' := ?_) ?_ ?_
        rotate_left
        ·show Act.put _ (some 73) _ = _
         simp only [Act.put, Q1,Q2,Q3, i64_w, i32_w]
         rfl
        refine pure_ (i := 14) (N := some 74) (v := ?_) (a' := ?_) (pm 26 15) rfl rfl (Qp HT_.out (by kernel_rfl)) (fun _ _ _ h => h) (Or.inl ⟨by rfl, ?_⟩) ?_ ?_
        rotate_left
        ·intro w'
         go_simp
         with_reducible rfl
        rotate_left
        ·simp only [Act.put, Q1,Q2,Q3, i64_w, i32_w]
         rfl
        refine pure_ (i := 15) (N := some 75) (v := ?_) (a' := ?_) (pm 26 16) rfl rfl (Qp HT_.out (by kernel_rfl)) (fun _ _ _ h => h) (Or.inl ⟨by rfl, ?_⟩) ?_ ?_
        rotate_left
        ·intro w'
         go_simp
         with_reducible rfl
        rotate_left
        ·simp only [Act.put, Q1,Q2,Q3, i64_w, i32_w]
         rfl
        refine pure_ (i := 16) (N := some 76) (v := undef) (a' := ?_) (pm 26 17) rfl rfl (Qp HT_.out (by kernel_rfl)) (fun _ _ _ h => h) (Or.inr ⟨by rfl, rfl⟩) ?_ ?_
        rotate_left
        ·simp only [Act.put, Q1,Q2,Q3, i64_w, i32_w]
         rfl
        refine pure_ (i := 17) (N := some 77) (v := undef) (a' := ?_) (pm 26 18) rfl rfl (Qp HT_.out (by kernel_rfl)) (fun _ _ _ h => h) (Or.inr ⟨by rfl, rfl⟩) ?_ ?_
        rotate_left
        ·simp only [Act.put, Q1,Q2,Q3, i64_w, i32_w]
         rfl
        refine pure_ (i := 18) (N := some 78) (v := undef) (a' := ?_) (pm 26 19) rfl rfl (Qp HT_.out (by kernel_rfl)) (fun _ _ _ h => h) (Or.inr ⟨by rfl, rfl⟩) ?_ ?_
        rotate_left
        ·simp only [Act.put, Q1,Q2,Q3, i64_w, i32_w]
         rfl
        refine pure_ (i := 19) (N := some 79) (v := undef) (a' := ?_) (pm 26 20) rfl rfl (Qp HT_.out (by kernel_rfl)) (fun _ _ _ h => h) (Or.inr ⟨by rfl, rfl⟩) ?_ ?_
        rotate_left
        ·simp only [Act.put, Q1,Q2,Q3, i64_w, i32_w]
         rfl
        refine pure_ (i := 20) (N := some 80) (v := undef) (a' := ?_) (pm 26 21) rfl rfl (Qp HT_.out (by kernel_rfl)) (fun _ _ _ h => h) (Or.inr ⟨by rfl, rfl⟩) ?_ ?_
        rotate_left
        ·simp only [Act.put, Q1,Q2,Q3, i64_w, i32_w]
         rfl
        refine pure_ (i := 21) (N := some 81) (v := undef) (a' := ?_) (pm 26 22) rfl rfl (Qp HT_.out (by kernel_rfl)) (fun _ _ _ h => h) (Or.inr ⟨by rfl, rfl⟩) ?_ ?_
        rotate_left
        ·simp only [Act.put, Q1,Q2,Q3, i64_w, i32_w]
         rfl
        refine pure_ (i := 22) (N := some 82) (v := undef) (a' := ?_) (pm 26 23) rfl rfl (Qp HT_.out (by kernel_rfl)) (fun _ _ _ h => h) (Or.inr ⟨by rfl, rfl⟩) ?_ ?_
        rotate_left
        ·simp only [Act.put, Q1,Q2,Q3, i64_w, i32_w]
         rfl
        refine pure_ (i := 23) (N := some 83) (v := ?_) (a' := ?_) (pm 26 24) rfl rfl (Qp HT_.out (by kernel_rfl)) (fun _ _ _ h => h) (Or.inl ⟨by rfl, ?_⟩) ?_ ?_
        rotate_left
        ·intro w'
         go_simp
         with_reducible rfl
        rotate_left
        ·simp only [Act.put, Q1,Q2,Q3, i64_w, i32_w]
         rfl
        refine one_ (i := 24) (N := none) (pm 26 25) rfl rfl (one_of HT_.out (by kernel_rfl)) (by decide) (fun K hK => ?_)
        have hs44 : w43.cell? ⟨gb164, 0, none⟩ = some (.string (⟨#[]⟩ : ByteArray)) := (Qe BK164.out 0).trans rfl
        have hfs44 := Qd BK164.out 0
        have hns44_1 := NB182_164.out
        have hms44_1 := NB164_182.out
        have hs45 : w43.cell? ⟨gb164, 1, none⟩ = some (.int .i64 0) := (Qe BK164.out 1).trans rfl
        have hfs45 := Qd BK164.out 1
        have hns45_1 := NB182_164.out
        have hms45_1 := NB164_182.out
        have hs46 : w43.cell? ⟨gb164, 2, none⟩ = some (.int .i64 0) := (Qe BK164.out 2).trans rfl
        have hfs46 := Qd BK164.out 2
        have hns46_1 := NB182_164.out
        have hms46_1 := NB164_182.out
        have hs47 : w43.cell? ⟨gb164, 3, none⟩ = some (.int .i64 0) := (Qe BK164.out 3).trans rfl
        have hfs47 := Qd BK164.out 3
        have hns47_1 := NB182_164.out
        have hms47_1 := NB164_182.out
        have hs48 : w43.cell? ⟨gb164, 4, none⟩ = some (.int .i64 0) := (Qe BK164.out 4).trans rfl
        have hfs48 := Qd BK164.out 4
        have hns48_1 := NB182_164.out
        have hms48_1 := NB164_182.out
        have hs49 : w43.cell? ⟨gb164, 5, none⟩ = some (.int .i32 0) := (Qe BK164.out 5).trans rfl
        have hfs49 := Qd BK164.out 5
        have hns49_1 := NB182_164.out
        have hms49_1 := NB164_182.out
        have hs50 : w43.cell? ⟨gb164, 6, none⟩ = some (.string (⟨#[]⟩ : ByteArray)) := (Qe BK164.out 6).trans rfl
        have hfs50 := Qd BK164.out 6
        have hns50_1 := NB182_164.out
        have hms50_1 := NB164_182.out
        refine skip_ (w1 := ?_) (by rfl) rfl ?_ ?_
        rotate_left
        ·go_simp
         rfl
        refine hK.out _ _ ⟨((Qf (p := ⟨gb164, _, none⟩) NB182_164.out _).trans (((Qf (p := ⟨gb164, _, none⟩) NB182_164.out _).trans (((Qf (p := ⟨gb164, _, none⟩) NB182_164.out _).trans (((Qf (p := ⟨gb164, _, none⟩) NB182_164.out _).trans (((Qf (p := ⟨gb164, _, none⟩) NB182_164.out _).trans (((Qf (p := ⟨gb164, _, none⟩) NB182_164.out _).trans (((Qf (p := ⟨gb164, _, none⟩) NB182_164.out _).trans (hHeld.1)))))))))))))), ((Qf (p := ⟨gb164, _, none⟩) NB182_164.out _).trans (((Qf (p := ⟨gb164, _, none⟩) NB182_164.out _).trans (((Qf (p := ⟨gb164, _, none⟩) NB182_164.out _).trans (((Qf (p := ⟨gb164, _, none⟩) NB182_164.out _).trans (((Qf (p := ⟨gb164, _, none⟩) NB182_164.out _).trans (((Qf (p := ⟨gb164, _, none⟩) NB182_164.out _).trans (((Qf (p := ⟨gb164, _, none⟩) NB182_164.out _).trans (hHeld.2.1)))))))))))))), ((Qf (p := ⟨gb164, _, none⟩) NB182_164.out _).trans (((Qf (p := ⟨gb164, _, none⟩) NB182_164.out _).trans (((Qf (p := ⟨gb164, _, none⟩) NB182_164.out _).trans (((Qf (p := ⟨gb164, _, none⟩) NB182_164.out _).trans (((Qf (p := ⟨gb164, _, none⟩) NB182_164.out _).trans (((Qf (p := ⟨gb164, _, none⟩) NB182_164.out _).trans (((Qf (p := ⟨gb164, _, none⟩) NB182_164.out _).trans (hHeld.2.2.1)))))))))))))), ((Qf (p := ⟨gb164, _, none⟩) NB182_164.out _).trans (((Qf (p := ⟨gb164, _, none⟩) NB182_164.out _).trans (((Qf (p := ⟨gb164, _, none⟩) NB182_164.out _).trans (((Qf (p := ⟨gb164, _, none⟩) NB182_164.out _).trans (((Qf (p := ⟨gb164, _, none⟩) NB182_164.out _).trans (((Qf (p := ⟨gb164, _, none⟩) NB182_164.out _).trans (((Qf (p := ⟨gb164, _, none⟩) NB182_164.out _).trans (hHeld.2.2.2.1)))))))))))))), ((Qf (p := ⟨gb164, _, none⟩) NB182_164.out _).trans (((Qf (p := ⟨gb164, _, none⟩) NB182_164.out _).trans (((Qf (p := ⟨gb164, _, none⟩) NB182_164.out _).trans (((Qf (p := ⟨gb164, _, none⟩) NB182_164.out _).trans (((Qf (p := ⟨gb164, _, none⟩) NB182_164.out _).trans (((Qf (p := ⟨gb164, _, none⟩) NB182_164.out _).trans (((Qf (p := ⟨gb164, _, none⟩) NB182_164.out _).trans (hHeld.2.2.2.2.1)))))))))))))), ((Qf (p := ⟨gb164, _, none⟩) NB182_164.out _).trans (((Qf (p := ⟨gb164, _, none⟩) NB182_164.out _).trans (((Qf (p := ⟨gb164, _, none⟩) NB182_164.out _).trans (((Qf (p := ⟨gb164, _, none⟩) NB182_164.out _).trans (((Qf (p := ⟨gb164, _, none⟩) NB182_164.out _).trans (((Qf (p := ⟨gb164, _, none⟩) NB182_164.out _).trans (((Qf (p := ⟨gb164, _, none⟩) NB182_164.out _).trans (hHeld.2.2.2.2.2.1)))))))))))))), ((Qf (p := ⟨gb164, _, none⟩) NB182_164.out _).trans (((Qf (p := ⟨gb164, _, none⟩) NB182_164.out _).trans (((Qf (p := ⟨gb164, _, none⟩) NB182_164.out _).trans (((Qf (p := ⟨gb164, _, none⟩) NB182_164.out _).trans (((Qf (p := ⟨gb164, _, none⟩) NB182_164.out _).trans (((Qf (p := ⟨gb164, _, none⟩) NB182_164.out _).trans (((Qf (p := ⟨gb164, _, none⟩) NB182_164.out _).trans (hHeld.2.2.2.2.2.2.1)))))))))))))), ((Qf (p := ⟨gb164, _, none⟩) NB182_164.out _).trans (((Qf (p := ⟨gb164, _, none⟩) NB182_164.out _).trans (((Qf (p := ⟨gb164, _, none⟩) NB182_164.out _).trans (((Qf (p := ⟨gb164, _, none⟩) NB182_164.out _).trans (((Qf (p := ⟨gb164, _, none⟩) NB182_164.out _).trans (((Qf (p := ⟨gb164, _, none⟩) NB182_164.out _).trans (((Qf (p := ⟨gb164, _, none⟩) NB182_164.out _).trans (hHeld.2.2.2.2.2.2.2))))))))))))))⟩ (fun hHeld => ?_)
        clear hK K
        refine pure_ (i := 25) (N := some 3) (v := ?_) (a' := ?_) (pm 26 26) rfl rfl (Qp HT_.out (by kernel_rfl)) (fun _ _ _ h => h) (Or.inl ⟨by rfl, ?_⟩) ?_ ?_
        rotate_left
        ·intro w'
         go_simp
         with_reducible rfl
        rotate_left
        ·simp only [Act.put, Q1,Q2,Q3, i64_w, i32_w]
         rfl
        refine done_ (done_of HT_.out (by kernel_rfl)) ?_
        try go_wp2
        refine bodyPost_ret (results_ct rfl _ _ gb164 40 #[.string t174, .int .i64 t175, .int .i64 t176, .int .i64 t177, .int .i64 t178, .int .i32 t179, .string t180] (0, 0) _ rfl (by (with_reducible repeat (first|refine Qa ?_ _|refine Qb ?_|refine Q7 ?_ _)); refine blk_put (cs := #[.string t174, .int .i64 t175, .int .i64 t176, .int .i64 t177, .int .i64 t178, .int .i32 t179, .string (⟨#[]⟩ : ByteArray)]) ?_ 6 _ rfl; (with_reducible repeat (first|refine Qa ?_ _|refine Qb ?_|refine Q7 ?_ _)); refine blk_put (cs := #[.string t174, .int .i64 t175, .int .i64 t176, .int .i64 t177, .int .i64 t178, .int .i32 0, .string (⟨#[]⟩ : ByteArray)]) ?_ 5 _ rfl; (with_reducible repeat (first|refine Qa ?_ _|refine Qb ?_|refine Q7 ?_ _)); refine blk_put (cs := #[.string t174, .int .i64 t175, .int .i64 t176, .int .i64 t177, .int .i64 0, .int .i32 0, .string (⟨#[]⟩ : ByteArray)]) ?_ 4 _ rfl; (with_reducible repeat (first|refine Qa ?_ _|refine Qb ?_|refine Q7 ?_ _)); refine blk_put (cs := #[.string t174, .int .i64 t175, .int .i64 t176, .int .i64 0, .int .i64 0, .int .i32 0, .string (⟨#[]⟩ : ByteArray)]) ?_ 3 _ rfl; (with_reducible repeat (first|refine Qa ?_ _|refine Qb ?_|refine Q7 ?_ _)); refine blk_put (cs := #[.string t174, .int .i64 t175, .int .i64 0, .int .i64 0, .int .i64 0, .int .i32 0, .string (⟨#[]⟩ : ByteArray)]) ?_ 2 _ rfl; (with_reducible repeat (first|refine Qa ?_ _|refine Qb ?_|refine Q7 ?_ _)); refine blk_put (cs := #[.string t174, .int .i64 0, .int .i64 0, .int .i64 0, .int .i64 0, .int .i32 0, .string (⟨#[]⟩ : ByteArray)]) ?_ 1 _ rfl; (with_reducible repeat (first|refine Qa ?_ _|refine Qb ?_|refine Q7 ?_ _)); refine blk_put (cs := #[.string (⟨#[]⟩ : ByteArray), .int .i64 0, .int .i64 0, .int .i64 0, .int .i64 0, .int .i32 0, .string (⟨#[]⟩ : ByteArray)]) ?_ 0 _ rfl; (with_reducible repeat (first|refine Qa ?_ _|refine Qb ?_|refine Q7 ?_ _)); exact BK164.out) Tryz.underlying40 rfl (by kernel_rfl)) rfl ?_
        exact ⟨by first|rfl|(simp [errW_none, errW_some] <;> rfl)|(simp [*, errW_none, errW_some] <;> rfl), by repeat (first|(with_reducible first|exact HB.out|apply Q8|apply Q5|apply Q9|refine Q6 ?_ GE164.out|refine Q6 ?_ GE182.out)|exact HB.out)⟩
      ·replace c24 := Bool.eq_false_iff.mpr c24
       subst c24
       rw [if_neg (show ¬ (false = true) by decide)] at H
       simp only [Option.some.injEq, Prod.mk.injEq] at H
       obtain ⟨rfl, rfl, rfl, rfl, rfl, rfl, rfl, rfl⟩ := H
       have n0_ := Q4 (Qb BK164.out)
       have n1_ := Q4 (Qb BK182.out)
       have n2_ := Q4 (Q9 HB.out)
       clear BK164
       clear BK182
       clear HB
       have BK164 := n0_
       have BK182 := n1_
       have HB := n2_
       clear n0_ n1_ n2_
       refine start_ (n := 26) (S := fun w' => w'.cell? ⟨gb182, 0, none⟩ = some (.string t174) ∧ w'.cell? ⟨gb182, 1, none⟩ = some (.int .i64 t175) ∧ w'.cell? ⟨gb182, 2, none⟩ = some (.int .i64 t176) ∧ w'.cell? ⟨gb182, 3, none⟩ = some (.int .i64 t177) ∧ w'.cell? ⟨gb182, 4, none⟩ = some (.int .i64 t178) ∧ w'.cell? ⟨gb182, 5, none⟩ = some (.int .i32 t179) ∧ w'.cell? ⟨gb182, 6, none⟩ = some (.string t180) ∧ w'.cell? ⟨gb182, 7, none⟩ = some (.bool false)) (ds := []) (pm 26 0) (by kernel_rfl) rfl rfl ⟨(Qe BK182.out 0).trans rfl, (Qe BK182.out 1).trans rfl, (Qe BK182.out 2).trans rfl, (Qe BK182.out 3).trans rfl, (Qe BK182.out 4).trans rfl, (Qe BK182.out 5).trans rfl, (Qe BK182.out 6).trans rfl, (Qe BK182.out 7).trans rfl⟩ (fun hHeld => ?_); refine with_tabW asm_read.tab14 asm_read.bits14 (fun HT_ HW_ => ?_)
       generalize wr.drew = w53 at BK164 BK182 HB hHeld ⊢
       refine pure_ (i := 0) (N := some 60) (v := ?_) (a' := ?_) (pm 26 1) rfl rfl (Qp HT_.out (by kernel_rfl)) (fun _ _ _ h => h) (Or.inl ⟨by rfl, ?_⟩) ?_ ?_
       rotate_left
       ·intro w'
        go_simp
        with_reducible rfl
       rotate_left
       ·simp only [Act.put, Q1,Q2,Q3, i64_w, i32_w]
        rfl
       refine pure_ (i := 1) (N := some 61) (v := ?_) (a' := ?_) (pm 26 2) rfl rfl (Qp HT_.out (by kernel_rfl)) (fun _ _ _ h => h) (Or.inl ⟨by rfl, ?_⟩) ?_ ?_
       rotate_left
       ·intro w'
        go_simp
        with_reducible rfl
       rotate_left
       ·simp only [Act.put, Q1,Q2,Q3, i64_w, i32_w]
        rfl
       refine pure_ (i := 2) (N := some 62) (v := ?_) (a' := ?_) (pm 26 3) rfl rfl (Qp HT_.out (by kernel_rfl)) (fun _ _ _ h => h) (Or.inl ⟨by rfl, ?_⟩) ?_ ?_
       rotate_left
       ·intro w'
        go_simp
        with_reducible rfl
       rotate_left
       ·simp only [Act.put, Q1,Q2,Q3, i64_w, i32_w]
        rfl
       refine pure_ (i := 4) (N := some 64) (v := ?_) (a' := ?_) #[true,true,true,false,true,false,false,false,false,false,false,false,false,false,false,false,false,false,false,false,false,false,false,false,false,false] rfl rfl (Qp HT_.out (by kernel_rfl)) (fun _ _ _ h => h) (Or.inl ⟨by rfl, ?_⟩) ?_ ?_
       rotate_left
       ·intro w'
        go_simp
        with_reducible rfl
       rotate_left
       ·simp only [Act.put, Q1,Q2,Q3, i64_w, i32_w]
        rfl
       refine pure_ (i := 5) (N := some 65) (v := ?_) (a' := ?_) #[true,true,true,false,true,true,false,false,false,false,false,false,false,false,false,false,false,false,false,false,false,false,false,false,false,false] rfl rfl (Qp HT_.out (by kernel_rfl)) (fun _ _ _ h => h) (Or.inl ⟨by rfl, ?_⟩) ?_ ?_
       rotate_left
       ·intro w'
        go_simp
        with_reducible rfl
       rotate_left
       ·simp only [Act.put, Q1,Q2,Q3, i64_w, i32_w]
        rfl
       refine pure_ (i := 6) (N := some 66) (v := ?_) (a' := ?_) #[true,true,true,false,true,true,true,false,false,false,false,false,false,false,false,false,false,false,false,false,false,false,false,false,false,false] rfl rfl (Qp HT_.out (by kernel_rfl)) (fun _ _ _ h => h) (Or.inl ⟨by rfl, ?_⟩) ?_ ?_
       rotate_left
       ·intro w'
        go_simp
        with_reducible rfl
       rotate_left
       ·simp only [Act.put, Q1,Q2,Q3, i64_w, i32_w]
        rfl
       refine take_ (i := 3) (N := some 63) (v := ?_) (a' := ?_) (pm 26 7) rfl rfl (take_ofW HT_.out HW_.out (by kernel_rfl)) (fun _ _ _ h => h) (Or.inl ⟨by rfl, ?_⟩) hHeld ?_ ?_
       rotate_left
       ·rintro w' ⟨s0, s1, s2, s3, s4, s5, s6, s7⟩
        go_simp
        with_reducible rfl
       rotate_left
       ·simp only [Act.put, Q1,Q2,Q3, i64_w, i32_w]
        rfl
       refine take_ (i := 7) (N := some 67) (v := ?_) (a' := ?_) (pm 26 8) rfl rfl (take_ofW HT_.out HW_.out (by kernel_rfl)) (fun _ _ _ h => h) (Or.inl ⟨by rfl, ?_⟩) hHeld ?_ ?_
       rotate_left
       ·rintro w' ⟨s0, s1, s2, s3, s4, s5, s6, s7⟩
        go_simp
        with_reducible rfl
       rotate_left
       ·simp only [Act.put, Q1,Q2,Q3, i64_w, i32_w]
        rfl
       refine pure_ (i := 8) (N := some 68) (v := ?_) (a' := ?_) (pm 26 9) rfl rfl (Qp HT_.out (by kernel_rfl)) (fun _ _ _ h => h) (Or.inl ⟨by rfl, ?_⟩) ?_ ?_
       rotate_left
       ·intro w'
        go_simp
        with_reducible rfl
       rotate_left
       ·simp only [Act.put, Q1,Q2,Q3, i64_w, i32_w]
        rfl
       refine pure_ (i := 9) (N := some 69) (v := undef) (a' := ?_) (pm 26 10) rfl rfl (Qp HT_.out (by kernel_rfl)) (fun _ _ _ h => h) (Or.inr ⟨by rfl, rfl⟩) ?_ ?_
       rotate_left
       ·simp only [Act.put, Q1,Q2,Q3, i64_w, i32_w]
        rfl
       refine pure_ (i := 10) (N := some 70) (v := undef) (a' := ?_) (pm 26 11) rfl rfl (Qp HT_.out (by kernel_rfl)) (fun _ _ _ h => h) (Or.inr ⟨by rfl, rfl⟩) ?_ ?_
       rotate_left
       ·simp only [Act.put, Q1,Q2,Q3, i64_w, i32_w]
        rfl
       refine pure_ (i := 11) (N := some 71) (v := undef) (a' := ?_) (pm 26 12) rfl rfl (Qp HT_.out (by kernel_rfl)) (fun _ _ _ h => h) (Or.inr ⟨by rfl, rfl⟩) ?_ ?_
       rotate_left
       ·simp only [Act.put, Q1,Q2,Q3, i64_w, i32_w]
        rfl
       refine pure_ (i := 12) (N := some 72) (v := undef) (a' := ?_) (pm 26 13) rfl rfl (Qp HT_.out (by kernel_rfl)) (fun _ _ _ h => h) (Or.inr ⟨by rfl, rfl⟩) ?_ ?_
       rotate_left
       ·simp only [Act.put, Q1,Q2,Q3, i64_w, i32_w]
        rfl
       refine pure_ (i := 13) (N := some 73) (v := undef) (a' := ?_) (pm 26 14) rfl rfl (Qp HT_.out (by kernel_rfl)) (fun _ _ _ h => h) (Or.inr ⟨by rfl, rfl⟩) ?_ ?_
       rotate_left
       ·simp only [Act.put, Q1,Q2,Q3, i64_w, i32_w]
        rfl
       refine pure_ (i := 14) (N := some 74) (v := ?_) (a' := ?_) (pm 26 15) rfl rfl (Qp HT_.out (by kernel_rfl)) (fun _ _ _ h => h) (Or.inl ⟨by rfl, ?_⟩) ?_ ?_
       rotate_left
       ·intro w'
        go_simp
        with_reducible rfl
       rotate_left
       ·simp only [Act.put, Q1,Q2,Q3, i64_w, i32_w]
        rfl
       refine pure_ (i := 15) (N := some 75) (v := ?_) (a' := ?_) (pm 26 16) rfl rfl (Qp HT_.out (by kernel_rfl)) (fun _ _ _ h => h) (Or.inl ⟨by rfl, ?_⟩) ?_ ?_
       rotate_left
       ·intro w'
        go_simp
        with_reducible rfl
       rotate_left
       ·simp only [Act.put, Q1,Q2,Q3, i64_w, i32_w]
        rfl
       refine pure_ (i := 16) (N := some 76) (v := undef) (a' := ?_) (pm 26 17) rfl rfl (Qp HT_.out (by kernel_rfl)) (fun _ _ _ h => h) (Or.inr ⟨by rfl, rfl⟩) ?_ ?_
       rotate_left
       ·simp only [Act.put, Q1,Q2,Q3, i64_w, i32_w]
        rfl
       refine pure_ (i := 17) (N := some 77) (v := undef) (a' := ?_) (pm 26 18) rfl rfl (Qp HT_.out (by kernel_rfl)) (fun _ _ _ h => h) (Or.inr ⟨by rfl, rfl⟩) ?_ ?_
       rotate_left
       ·simp only [Act.put, Q1,Q2,Q3, i64_w, i32_w]
        rfl
       refine pure_ (i := 18) (N := some 78) (v := undef) (a' := ?_) (pm 26 19) rfl rfl (Qp HT_.out (by kernel_rfl)) (fun _ _ _ h => h) (Or.inr ⟨by rfl, rfl⟩) ?_ ?_
       rotate_left
       ·simp only [Act.put, Q1,Q2,Q3, i64_w, i32_w]
        rfl
       refine pure_ (i := 19) (N := some 79) (v := undef) (a' := ?_) (pm 26 20) rfl rfl (Qp HT_.out (by kernel_rfl)) (fun _ _ _ h => h) (Or.inr ⟨by rfl, rfl⟩) ?_ ?_
       rotate_left
       ·simp only [Act.put, Q1,Q2,Q3, i64_w, i32_w]
        rfl
       refine pure_ (i := 20) (N := some 80) (v := undef) (a' := ?_) (pm 26 21) rfl rfl (Qp HT_.out (by kernel_rfl)) (fun _ _ _ h => h) (Or.inr ⟨by rfl, rfl⟩) ?_ ?_
       rotate_left
       ·simp only [Act.put, Q1,Q2,Q3, i64_w, i32_w]
        rfl
       refine pure_ (i := 21) (N := some 81) (v := undef) (a' := ?_) (pm 26 22) rfl rfl (Qp HT_.out (by kernel_rfl)) (fun _ _ _ h => h) (Or.inr ⟨by rfl, rfl⟩) ?_ ?_
       rotate_left
       ·simp only [Act.put, Q1,Q2,Q3, i64_w, i32_w]
        rfl
       refine pure_ (i := 22) (N := some 82) (v := undef) (a' := ?_) (pm 26 23) rfl rfl (Qp HT_.out (by kernel_rfl)) (fun _ _ _ h => h) (Or.inr ⟨by rfl, rfl⟩) ?_ ?_
       rotate_left
       ·simp only [Act.put, Q1,Q2,Q3, i64_w, i32_w]
        rfl
       refine pure_ (i := 23) (N := some 83) (v := ?_) (a' := ?_) (pm 26 24) rfl rfl (Qp HT_.out (by kernel_rfl)) (fun _ _ _ h => h) (Or.inl ⟨by rfl, ?_⟩) ?_ ?_
       rotate_left
       ·intro w'
        go_simp
        with_reducible rfl
       rotate_left
       ·simp only [Act.put, Q1,Q2,Q3, i64_w, i32_w]
        rfl
       refine one_ (i := 24) (N := none) (pm 26 25) rfl rfl (one_of HT_.out (by kernel_rfl)) (by decide) (fun K hK => ?_)
       have hs54 : w53.cell? ⟨gb164, 0, none⟩ = some (.string (⟨#[]⟩ : ByteArray)) := (Qe BK164.out 0).trans rfl
       have hfs54 := Qd BK164.out 0
       have hns54_1 := NB182_164.out
       have hms54_1 := NB164_182.out
       have hs55 : w53.cell? ⟨gb164, 1, none⟩ = some (.int .i64 0) := (Qe BK164.out 1).trans rfl
       have hfs55 := Qd BK164.out 1
       have hns55_1 := NB182_164.out
       have hms55_1 := NB164_182.out
       have hs56 : w53.cell? ⟨gb164, 2, none⟩ = some (.int .i64 0) := (Qe BK164.out 2).trans rfl
       have hfs56 := Qd BK164.out 2
       have hns56_1 := NB182_164.out
       have hms56_1 := NB164_182.out
       have hs57 : w53.cell? ⟨gb164, 3, none⟩ = some (.int .i64 0) := (Qe BK164.out 3).trans rfl
       have hfs57 := Qd BK164.out 3
       have hns57_1 := NB182_164.out
       have hms57_1 := NB164_182.out
       have hs58 : w53.cell? ⟨gb164, 4, none⟩ = some (.int .i64 0) := (Qe BK164.out 4).trans rfl
       have hfs58 := Qd BK164.out 4
       have hns58_1 := NB182_164.out
       have hms58_1 := NB164_182.out
       have hs59 : w53.cell? ⟨gb164, 5, none⟩ = some (.int .i32 0) := (Qe BK164.out 5).trans rfl
       have hfs59 := Qd BK164.out 5
       have hns59_1 := NB182_164.out
       have hms59_1 := NB164_182.out
       have hs60 : w53.cell? ⟨gb164, 6, none⟩ = some (.string (⟨#[]⟩ : ByteArray)) := (Qe BK164.out 6).trans rfl
       have hfs60 := Qd BK164.out 6
       have hns60_1 := NB182_164.out
       have hms60_1 := NB164_182.out
       refine skip_ (w1 := ?_) (by rfl) rfl ?_ ?_
       rotate_left
       ·go_simp
        rfl
       refine hK.out _ _ ⟨((Qf (p := ⟨gb164, _, none⟩) NB182_164.out _).trans (((Qf (p := ⟨gb164, _, none⟩) NB182_164.out _).trans (((Qf (p := ⟨gb164, _, none⟩) NB182_164.out _).trans (((Qf (p := ⟨gb164, _, none⟩) NB182_164.out _).trans (((Qf (p := ⟨gb164, _, none⟩) NB182_164.out _).trans (((Qf (p := ⟨gb164, _, none⟩) NB182_164.out _).trans (((Qf (p := ⟨gb164, _, none⟩) NB182_164.out _).trans (hHeld.1)))))))))))))), ((Qf (p := ⟨gb164, _, none⟩) NB182_164.out _).trans (((Qf (p := ⟨gb164, _, none⟩) NB182_164.out _).trans (((Qf (p := ⟨gb164, _, none⟩) NB182_164.out _).trans (((Qf (p := ⟨gb164, _, none⟩) NB182_164.out _).trans (((Qf (p := ⟨gb164, _, none⟩) NB182_164.out _).trans (((Qf (p := ⟨gb164, _, none⟩) NB182_164.out _).trans (((Qf (p := ⟨gb164, _, none⟩) NB182_164.out _).trans (hHeld.2.1)))))))))))))), ((Qf (p := ⟨gb164, _, none⟩) NB182_164.out _).trans (((Qf (p := ⟨gb164, _, none⟩) NB182_164.out _).trans (((Qf (p := ⟨gb164, _, none⟩) NB182_164.out _).trans (((Qf (p := ⟨gb164, _, none⟩) NB182_164.out _).trans (((Qf (p := ⟨gb164, _, none⟩) NB182_164.out _).trans (((Qf (p := ⟨gb164, _, none⟩) NB182_164.out _).trans (((Qf (p := ⟨gb164, _, none⟩) NB182_164.out _).trans (hHeld.2.2.1)))))))))))))), ((Qf (p := ⟨gb164, _, none⟩) NB182_164.out _).trans (((Qf (p := ⟨gb164, _, none⟩) NB182_164.out _).trans (((Qf (p := ⟨gb164, _, none⟩) NB182_164.out _).trans (((Qf (p := ⟨gb164, _, none⟩) NB182_164.out _).trans (((Qf (p := ⟨gb164, _, none⟩) NB182_164.out _).trans (((Qf (p := ⟨gb164, _, none⟩) NB182_164.out _).trans (((Qf (p := ⟨gb164, _, none⟩) NB182_164.out _).trans (hHeld.2.2.2.1)))))))))))))), ((Qf (p := ⟨gb164, _, none⟩) NB182_164.out _).trans (((Qf (p := ⟨gb164, _, none⟩) NB182_164.out _).trans (((Qf (p := ⟨gb164, _, none⟩) NB182_164.out _).trans (((Qf (p := ⟨gb164, _, none⟩) NB182_164.out _).trans (((Qf (p := ⟨gb164, _, none⟩) NB182_164.out _).trans (((Qf (p := ⟨gb164, _, none⟩) NB182_164.out _).trans (((Qf (p := ⟨gb164, _, none⟩) NB182_164.out _).trans (hHeld.2.2.2.2.1)))))))))))))), ((Qf (p := ⟨gb164, _, none⟩) NB182_164.out _).trans (((Qf (p := ⟨gb164, _, none⟩) NB182_164.out _).trans (((Qf (p := ⟨gb164, _, none⟩) NB182_164.out _).trans (((Qf (p := ⟨gb164, _, none⟩) NB182_164.out _).trans (((Qf (p := ⟨gb164, _, none⟩) NB182_164.out _).trans (((Qf (p := ⟨gb164, _, none⟩) NB182_164.out _).trans (((Qf (p := ⟨gb164, _, none⟩) NB182_164.out _).trans (hHeld.2.2.2.2.2.1)))))))))))))), ((Qf (p := ⟨gb164, _, none⟩) NB182_164.out _).trans (((Qf (p := ⟨gb164, _, none⟩) NB182_164.out _).trans (((Qf (p := ⟨gb164, _, none⟩) NB182_164.out _).trans (((Qf (p := ⟨gb164, _, none⟩) NB182_164.out _).trans (((Qf (p := ⟨gb164, _, none⟩) NB182_164.out _).trans (((Qf (p := ⟨gb164, _, none⟩) NB182_164.out _).trans (((Qf (p := ⟨gb164, _, none⟩) NB182_164.out _).trans (hHeld.2.2.2.2.2.2.1)))))))))))))), ((Qf (p := ⟨gb164, _, none⟩) NB182_164.out _).trans (((Qf (p := ⟨gb164, _, none⟩) NB182_164.out _).trans (((Qf (p := ⟨gb164, _, none⟩) NB182_164.out _).trans (((Qf (p := ⟨gb164, _, none⟩) NB182_164.out _).trans (((Qf (p := ⟨gb164, _, none⟩) NB182_164.out _).trans (((Qf (p := ⟨gb164, _, none⟩) NB182_164.out _).trans (((Qf (p := ⟨gb164, _, none⟩) NB182_164.out _).trans (hHeld.2.2.2.2.2.2.2))))))))))))))⟩ (fun hHeld => ?_)
       clear hK K
       refine pure_ (i := 25) (N := some 3) (v := ?_) (a' := ?_) (pm 26 26) rfl rfl (Qp HT_.out (by kernel_rfl)) (fun _ _ _ h => h) (Or.inl ⟨by rfl, ?_⟩) ?_ ?_
       rotate_left
       ·intro w'
        go_simp
        with_reducible rfl
       rotate_left
       ·simp only [Act.put, Q1,Q2,Q3, i64_w, i32_w]
        rfl
       refine done_ (done_of HT_.out (by kernel_rfl)) ?_
       try go_wp2
       refine bodyPost_ret (results_ct rfl _ _ gb164 40 #[.string t174, .int .i64 t175, .int .i64 t176, .int .i64 t177, .int .i64 t178, .int .i32 t179, .string t180] (0, 0) _ rfl (by (with_reducible repeat (first|refine Qa ?_ _|refine Qb ?_|refine Q7 ?_ _)); refine blk_put (cs := #[.string t174, .int .i64 t175, .int .i64 t176, .int .i64 t177, .int .i64 t178, .int .i32 t179, .string (⟨#[]⟩ : ByteArray)]) ?_ 6 _ rfl; (with_reducible repeat (first|refine Qa ?_ _|refine Qb ?_|refine Q7 ?_ _)); refine blk_put (cs := #[.string t174, .int .i64 t175, .int .i64 t176, .int .i64 t177, .int .i64 t178, .int .i32 0, .string (⟨#[]⟩ : ByteArray)]) ?_ 5 _ rfl; (with_reducible repeat (first|refine Qa ?_ _|refine Qb ?_|refine Q7 ?_ _)); refine blk_put (cs := #[.string t174, .int .i64 t175, .int .i64 t176, .int .i64 t177, .int .i64 0, .int .i32 0, .string (⟨#[]⟩ : ByteArray)]) ?_ 4 _ rfl; (with_reducible repeat (first|refine Qa ?_ _|refine Qb ?_|refine Q7 ?_ _)); refine blk_put (cs := #[.string t174, .int .i64 t175, .int .i64 t176, .int .i64 0, .int .i64 0, .int .i32 0, .string (⟨#[]⟩ : ByteArray)]) ?_ 3 _ rfl; (with_reducible repeat (first|refine Qa ?_ _|refine Qb ?_|refine Q7 ?_ _)); refine blk_put (cs := #[.string t174, .int .i64 t175, .int .i64 0, .int .i64 0, .int .i64 0, .int .i32 0, .string (⟨#[]⟩ : ByteArray)]) ?_ 2 _ rfl; (with_reducible repeat (first|refine Qa ?_ _|refine Qb ?_|refine Q7 ?_ _)); refine blk_put (cs := #[.string t174, .int .i64 0, .int .i64 0, .int .i64 0, .int .i64 0, .int .i32 0, .string (⟨#[]⟩ : ByteArray)]) ?_ 1 _ rfl; (with_reducible repeat (first|refine Qa ?_ _|refine Qb ?_|refine Q7 ?_ _)); refine blk_put (cs := #[.string (⟨#[]⟩ : ByteArray), .int .i64 0, .int .i64 0, .int .i64 0, .int .i64 0, .int .i32 0, .string (⟨#[]⟩ : ByteArray)]) ?_ 0 _ rfl; (with_reducible repeat (first|refine Qa ?_ _|refine Qb ?_|refine Q7 ?_ _)); exact BK164.out) Tryz.underlying40 rfl (by kernel_rfl)) rfl ?_
       exact ⟨by first|rfl|(simp [errW_none, errW_some] <;> rfl)|(simp [*, errW_none, errW_some] <;> rfl), by repeat (first|(with_reducible first|exact HB.out|apply Q8|apply Q5|apply Q9|refine Q6 ?_ GE164.out|refine Q6 ?_ GE182.out)|exact HB.out)⟩
  ·rw [if_neg c10] at H
   exact absurd H (by simp)

end Go.Proofs.YtbelnkdbghggmaaGreatDoor.X
