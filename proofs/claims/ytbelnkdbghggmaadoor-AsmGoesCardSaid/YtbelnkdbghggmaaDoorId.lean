/- Contract of inst.parts and of what it hands out: an instruction's four parts, in order. -/
import Derived.Test.YtbelnkdbghggmaaDoorIc
import Derived.RangeFuncNested
import Derived.RangeFuncBound
import Derived.RangeFuncCalls
import Derived.RangeFuncLeaves
import Derived.Shelf.Abstract
import Derived.Shelf.AbstractIn
import Derived.Shelf.RegionOpen
import Derived.OwnWalkIn
import Derived.TacticsInMore
import Derived.LoopNIn
import Derived.LoopIn
import Derived.Lib.Hide
import Derived.Laws.EntriesVeiled
import Derived.WalkSpells
import Derived.Sort.QuietIn
import Derived.Lib.SliceRun
namespace Go.Proofs.YtbelnkdbghggmaaDoor.X
open Go.RowKit Go.Shelf Go.Proofs.YtbelnkdbghggmaaDoorW.PrintWords Go.Proofs.YtbelnkdbghggmaaDoorW.PrintLast
attribute [local go_sem] Oper.semAt_some
set_option linter.unusedVariables false
set_option linter.unusedSimpArgs false
/-- What a yield leaves: the elder world, and every block of cells but one. -/
def KeepC (n₀ R : Nat) (A B : World) : Prop := Below n₀ A B ∧ ∀ (i : Nat) (o : Obj), i ≠ R → A.heap[i]? = some o → o.isCells = true → B.heap[i]? = some o
theorem KeepC.refl (n₀ R : Nat) (A : World) : KeepC n₀ R A A := ⟨Below.refl _ _, fun _ _ _ h _ => h⟩
theorem KeepC.trans {n₀ R : Nat} {A B C : World} (h : KeepC n₀ R A B) (k : KeepC n₀ R B C) : KeepC n₀ R A C :=
  ⟨h.1.trans k.1, fun i o hi ho hc => k.2 i o hi (h.2 i o hi ho hc) hc⟩
theorem KeepC.putObj {n₀ R : Nat} {w : World} (hn : n₀ ≤ w.heap.size) (W : World) (l : Nat) (o o' : Obj) (hl : w.heap.size ≤ l) (h : W.heap[l]? = some o) (h1 : o.isCells = false) (h2 : o.isWalk = false) : KeepC n₀ R W (W.putObj l o') :=
  ⟨belowK_b hn W l o o' hl h h1 h2, fun i p hi hp hc => (World.putObj_heap_other (fun e => by subst e; rw [h] at hp; injection hp with hp; rw [← hp, h1] at hc; cases hc)).trans hp⟩
theorem KeepC.of_below {n₀ R : Nat} {A B : World} (h : Below A.heap.size A B) (hn : n₀ ≤ A.heap.size) : KeepC n₀ R A B :=
  ⟨h.mono hn, fun i o _ ho _ => (h.block i (Array.getElem?_eq_some_iff.1 ho).1).trans ho⟩
theorem KeepC.blk {n₀ R : Nat} {A B : World} (h : KeepC n₀ R A B) {i : Nat} (hi : i ≠ R) {cs : Array Value} {t : TypeId} (ho : A.heap[i]? = some (.cells cs t (0, 0))) : B.heap[i]? = some (.cells cs t (0, 0)) := h.2 i _ hi ho rfl
/-- The parts' letters and numbers. -/
def letter : Nat → Int
  | 0 => 97
  | 1 => 98
  | 2 => 99
  | _ => 105
def num (a b c e : Int) : Nat → Int
  | 0 => a
  | 1 => b
  | 2 => c
  | _ => e
def uses (op : Int) (k : Nat) : Bool := decide (0 ≤ Lib.indexByte (shapeOf op).data.toList (letter k).toNat.toUInt8)
def partV (op a b c e : Int) (k : Nat) : Value := .agg #[.int .u8 (letter k), .int .i64 (num a b c e k), .bool (uses op k)]
theorem parts_calls (v : Array Value) (w : World) : Calls Tryd.prog 29 #[.agg v] w fun e w' => e = .returned (.func (.func 45) #[] #[.pointer (some ⟨w.heap.size, 0, none⟩)]) ∧ w' = w.alloc (.cells v 26) := by
  go_enter Tryd.func29, Tryd.ntmps29
  go_wp2
  go_ret
  exact ⟨rfl, rfl⟩
set_option maxRecDepth 100000 in
set_option maxHeartbeats 8000000 in
theorem parts1_in (n : Nat) (hn : 1 ≤ n) (l B R : Nat) (n₀ : Nat) (op a b c e : Int) (he : -2147483648 ≤ e ∧ e ≤ 2147483647) (J Jx : List Nat → World → Prop) (W : World) (hn0 : n₀ ≤ W.heap.size) (hJ : AbidesFrom W.heap.size J)
    (hY : ∀ pre (x : Nat) W1, J pre W1 → pre.length < 4 → YieldAt Fence.wide (n - 1) Tryd.prog l #[partV op a b c e x] W1 fun e W' =>
      (e = .returned (.bool true) ∧ J (pre ++ [x]) W' ∧ KeepC n₀ R W1 W') ∨ (e = .returned (.bool false) ∧ Jx (pre ++ [x]) W'))
    (hB : W.heap[B]? = some (.cells #[.int .i64 op, .int .i64 a, .int .i64 b, .int .i64 c, .int .i32 e] 26 (0, 0))) (hBR : B ≠ R) (hR : R < W.heap.size) (h0 : J [] W) :
    CallsIn Fence.wide n Tryd.prog 45 #[.func (.yield l) #[] #[], .pointer (some ⟨B, 0, none⟩)] W fun e W' => (∃ v, e = .returned v) ∧
      ((∃ ys, ys = List.range 4 ∧ J ys W') ∨ (∃ pre, pre <+: List.range 4 ∧ Jx pre W')) := by
  have hshape := fun n W => (callsIn_wide (n := n)).2 (inst_Shape.calls op (shapeOf op) W rfl)
  have hidx := fun n c W => (callsIn_wide (n := n)).2 (IndexByte_any (shapeOf op) c W)
  have hc0 := blk_cell hB 0
  have hc1 := blk_cell hB 1
  have hc2 := blk_cell hB 2
  have hc3 := blk_cell hB 3
  have hc4 := blk_cell hB 4
  simp only [List.getElem?_toArray, List.getElem?_cons_zero, List.getElem?_cons_succ] at hc0 hc1 hc2 hc3 hc4
  refine callsIn_of_wp Tryd.func45 rfl trivial ?_ rfl
  simp only [Tryd.ntmps45, List.size_toArray, List.length_cons, List.length_nil, Nat.reduceAdd, Nat.reduceSub, Array.replicate_succ, Array.replicate_zero, List.push_toArray, List.append_toArray, List.nil_append, List.cons_append]
  gi_wp2_with (refine ⟨trivial, ?_⟩; gi_at_call 40; refine (hshape _ _).mono ?_; rintro e_ w2 ⟨rfl, hb⟩; have hB2 := blk_below hB hb; have hd1 := blk_cell hB2 1; have hd2 := blk_cell hB2 2; have hd3 := blk_cell hB2 3; have hd4 := blk_cell hB2 4; simp only [List.getElem?_toArray, List.getElem?_cons_zero, List.getElem?_cons_succ] at hd1 hd2 hd3 hd4)
  obtain ⟨W2, hW2⟩ : ∃ W2, W2 = w2.alloc (.cells #[.int .i64 a, .int .i64 b, .int .i64 c, .int .i64 e] 3) := ⟨_, rfl⟩
  have hs2 := hb.size
  have hBel : Below W.heap.size W W2 := by rw [hW2]; exact below_alloc hb _
  have hSB : W2.heap[w2.heap.size]? = some (.cells #[.int .i64 a, .int .i64 b, .int .i64 c, .int .i64 e] 3 (0, 0)) := by rw [hW2]; exact blk_new w2 _
  have hsW2 : w2.heap.size < W2.heap.size := by rw [hW2]; simp
  rw [← hW2]
  have hJ0 : J [] W2 := hJ [] W W2 none h0 (grown_of_below hBel none) (fun r e => by cases e)
  have HSR : w2.heap.size ≠ R := by omega
  generalize w2.heap.size = SB at hSB hsW2 HSR
  clear hW2 hb hB2 hd1 hd2 hd3 hd4 hc0 hc1 hc2 hc3 hc4 hs2
  gi_loopw [21] (fun i wr => ∃ k : Nat, k ≤ 4 ∧ i = .int .i64 k ∧ J (List.range k) wr ∧ KeepC n₀ R W2 wr) (fun i _ => 4 - (intOf i).toNat)
  case atStart => exact ⟨0, Nat.zero_le _, rfl, hJ0, KeepC.refl _ _ _⟩
  case round =>
    obtain ⟨k, hk, rfl, hJs, hkb⟩ := hrel
    by_cases hlt : k < 4
    · have hx := hkb.blk HSR hSB
      have hy0 := hY (List.range k) k wr hJs (by simpa using hlt)
      have hx0 := blk_cell hx 0
      have hx1 := blk_cell hx 1
      have hx2 := blk_cell hx 2
      have hx3 := blk_cell hx 3
      simp only [List.getElem?_toArray, List.getElem?_cons_zero, List.getElem?_cons_succ] at hx0 hx1 hx2 hx3
      have hrs : List.range k ++ [k] = List.range (k + 1) := List.range_succ.symm
      rw [hrs] at hy0
      have hpre : List.range (k + 1) <+: List.range 4 := ⟨(List.range 4).drop (k + 1), by rcases k with _ | _ | _ | _ | k <;> first | rfl | omega⟩
      have HP := Lib.hid hpre
      have HKB := Lib.hid hkb
      clear hrs hpre hkb hx hJs
      unfold partV at hy0
      obtain rfl | rfl | rfl | rfl : k = 0 ∨ k = 1 ∨ k = 2 ∨ k = 3 := by omega
      · have hik := fun n W => hidx n 97 W
        have hl_ : ((⟨#[97, 98, 99, 105]⟩ : ByteArray)[0]'(by decide)).toNat = 97 := rfl
        unfold uses at hy0
        simp only [letter, num] at hy0
        generalize Lib.indexByte (shapeOf op).data.toList (Int.toNat 97).toUInt8 = jj at hik hy0
        clear hidx
        obtain ⟨fn, tmps, assign, body, hy, hR⟩ := hy0
        gi_wp2_with (refine ⟨trivial, ?_⟩; gi_at_call 46; refine (hik _ _).mono ?_; rintro e_ w5 ⟨rfl, rfl⟩)
        refine hR.mono ?_
        rintro e_ W3 (⟨rfl, hJ3, hk3⟩ | ⟨rfl, hJx3⟩)
        · gi_wp2
          go_roundw
          case rel => exact ⟨1, by omega, by go_num, hJ3, HKB.out.trans hk3⟩
          case measure => simp [intOf]
        · gi_wp2
          refine bodyPost_ret (results_none rfl _ _ _) rfl ?_
          exact ⟨⟨_, rfl⟩, .inr ⟨_, HP.out, hJx3⟩⟩
      · have hik := fun n W => hidx n 98 W
        have hl_ : ((⟨#[97, 98, 99, 105]⟩ : ByteArray)[1]'(by decide)).toNat = 98 := rfl
        unfold uses at hy0
        simp only [letter, num] at hy0
        generalize Lib.indexByte (shapeOf op).data.toList (Int.toNat 98).toUInt8 = jj at hik hy0
        clear hidx
        obtain ⟨fn, tmps, assign, body, hy, hR⟩ := hy0
        gi_wp2_with (refine ⟨trivial, ?_⟩; gi_at_call 46; refine (hik _ _).mono ?_; rintro e_ w5 ⟨rfl, rfl⟩)
        refine hR.mono ?_
        rintro e_ W3 (⟨rfl, hJ3, hk3⟩ | ⟨rfl, hJx3⟩)
        · gi_wp2
          go_roundw
          case rel => exact ⟨2, by omega, by go_num, hJ3, HKB.out.trans hk3⟩
          case measure => simp [intOf]
        · gi_wp2
          refine bodyPost_ret (results_none rfl _ _ _) rfl ?_
          exact ⟨⟨_, rfl⟩, .inr ⟨_, HP.out, hJx3⟩⟩
      · have hik := fun n W => hidx n 99 W
        have hl_ : ((⟨#[97, 98, 99, 105]⟩ : ByteArray)[2]'(by decide)).toNat = 99 := rfl
        unfold uses at hy0
        simp only [letter, num] at hy0
        generalize Lib.indexByte (shapeOf op).data.toList (Int.toNat 99).toUInt8 = jj at hik hy0
        clear hidx
        obtain ⟨fn, tmps, assign, body, hy, hR⟩ := hy0
        gi_wp2_with (refine ⟨trivial, ?_⟩; gi_at_call 46; refine (hik _ _).mono ?_; rintro e_ w5 ⟨rfl, rfl⟩)
        refine hR.mono ?_
        rintro e_ W3 (⟨rfl, hJ3, hk3⟩ | ⟨rfl, hJx3⟩)
        · gi_wp2
          go_roundw
          case rel => exact ⟨3, by omega, by go_num, hJ3, HKB.out.trans hk3⟩
          case measure => simp [intOf]
        · gi_wp2
          refine bodyPost_ret (results_none rfl _ _ _) rfl ?_
          exact ⟨⟨_, rfl⟩, .inr ⟨_, HP.out, hJx3⟩⟩
      · have hik := fun n W => hidx n 105 W
        have hl_ : ((⟨#[97, 98, 99, 105]⟩ : ByteArray)[3]'(by decide)).toNat = 105 := rfl
        unfold uses at hy0
        simp only [letter, num] at hy0
        generalize Lib.indexByte (shapeOf op).data.toList (Int.toNat 105).toUInt8 = jj at hik hy0
        clear hidx
        obtain ⟨fn, tmps, assign, body, hy, hR⟩ := hy0
        gi_wp2_with (refine ⟨trivial, ?_⟩; gi_at_call 46; refine (hik _ _).mono ?_; rintro e_ w5 ⟨rfl, rfl⟩)
        refine hR.mono ?_
        rintro e_ W3 (⟨rfl, hJ3, hk3⟩ | ⟨rfl, hJx3⟩)
        · gi_wp2
          go_roundw
          case rel => exact ⟨4, by omega, by go_num, hJ3, HKB.out.trans hk3⟩
          case measure => simp [intOf]
        · gi_wp2
          refine bodyPost_ret (results_none rfl _ _ _) rfl ?_
          exact ⟨⟨_, rfl⟩, .inr ⟨_, HP.out, hJx3⟩⟩
    · obtain rfl : k = 4 := by omega
      gi_wp2
      go_end0
      exact ⟨⟨_, rfl⟩, .inl ⟨_, rfl, hJs⟩⟩
theorem parts_stops (n : Nat) (hn : 1 ≤ n) (B R n₀ : Nat) (op a b c e : Int) (he : -2147483648 ≤ e ∧ e ≤ 2147483647) (w : World) (hB : w.heap[B]? = some (.cells #[.int .i64 op, .int .i64 a, .int .i64 b, .int .i64 c, .int .i32 e] 26 (0, 0))) (hBR : B ≠ R) (hR : R < w.heap.size) (hn0 : n₀ ≤ w.heap.size) :
    SeqStopsK Fence.wide n Tryd.prog 45 #[.pointer (some ⟨B, 0, none⟩)] (fun x : Nat => #[partV op a b c e x]) (KeepC n₀ R) (fun ys => ys = List.range 4) (fun pre => pre <+: List.range 4) 4 w := fun l J Jx W hW hJ hJx hY h0 =>
  parts1_in n hn l B R n₀ op a b c e he J Jx W (Nat.le_trans hn0 hW.size) hJ hY (blk_below hB hW) hBR (Nat.lt_of_lt_of_le hR hW.size) h0
theorem blk_own {β : Type} (i : Nat) (cs : Array Value) (t : TypeId) : Own (fun (_ : β) W => W.heap[i]? = some (.cells cs t (0, 0))) := fun s X Y row hs hg hrow =>
  blk_grown hs hg (fun e => by obtain ⟨o, ho, hc⟩ := hrow i e.symm; rw [show X.heap[i]? = _ from hs] at ho; cases ho; cases hc)
end Go.Proofs.YtbelnkdbghggmaaDoor.X
