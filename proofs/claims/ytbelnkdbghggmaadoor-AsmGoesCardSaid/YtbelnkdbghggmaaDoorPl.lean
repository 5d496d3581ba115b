/- Contract of asm.placed and of what it hands out: lines, each with how many instructions stand ahead of it. -/
import Derived.Test.YtbelnkdbghggmaaDoorXx0
import Derived.RangeFuncNested
import Derived.RangeFuncBound
import Derived.RangeFuncCalls
import Derived.RangeFuncLeaves
import Derived.Shelf.Abstract
import Derived.Shelf.AbstractIn
import Derived.Shelf.RegionOpen
import Derived.OwnWalkIn
import Derived.TacticsInMore
import Derived.LoopNIn
import Derived.LoopIn
import Derived.Lib.Hide
import Derived.Laws.EntriesVeiled
import Derived.WalkSpells
import Derived.Sort.QuietIn
import Derived.Lib.SliceRun
namespace Go.Proofs.YtbelnkdbghggmaaDoor.X
open Go.RowKit Go.Shelf Go.Proofs.YtbelnkdbghggmaaDoorW.PrintWords Go.Proofs.YtbelnkdbghggmaaDoorW.PrintLast
attribute [local go_sem] Oper.semAt_some
set_option linter.unusedVariables false
set_option linter.unusedSimpArgs false
/-- What a round keeps: all that lay below n₀, and each block of cells but those of R and rows of words; of a line's the first cell. -/
def KeepT (n₀ : Nat) (R : Nat → Prop) (A B : World) : Prop := Below n₀ A B ∧ ∀ (i : Nat) (cs : Array Value) (t : TypeId) (fr : Nat × Nat), ¬ R i → t ≠ 40 → A.heap[i]? = some (.cells cs t fr) → ∃ cs', B.heap[i]? = some (.cells cs' t fr) ∧ cs'[0]? = cs[0]? ∧ (t ≠ 28 → cs' = cs)
theorem KeepT.of_same {n₀ : Nat} {R : Nat → Prop} {A B : World} (h : Below n₀ A B) (k : ∀ (i : Nat) (cs : Array Value) (t : TypeId) (fr : Nat × Nat), ¬ R i → t ≠ 40 → A.heap[i]? = some (.cells cs t fr) → B.heap[i]? = some (.cells cs t fr)) : KeepT n₀ R A B := ⟨h, fun i cs t fr hi ht ho => ⟨cs, k i cs t fr hi ht ho, rfl, fun _ => rfl⟩⟩
theorem KeepT.refl (n₀ : Nat) (R : Nat → Prop) (A : World) : KeepT n₀ R A A := KeepT.of_same (Below.refl _ _) fun _ _ _ _ _ _ h => h
theorem KeepT.trans {n₀ : Nat} {R : Nat → Prop} {A B C : World} (h : KeepT n₀ R A B) (k : KeepT n₀ R B C) : KeepT n₀ R A C := ⟨h.1.trans k.1, fun i cs t fr hi ht ho => by
  obtain ⟨c1, h1, h2, h3⟩ := h.2 i cs t fr hi ht ho
  obtain ⟨c2, k1, k2, k3⟩ := k.2 i c1 t fr hi ht h1
  exact ⟨c2, k1, k2.trans h2, fun hn => (k3 hn).trans (h3 hn)⟩⟩
theorem KeepT.putObj {n₀ : Nat} {R : Nat → Prop} {w : World} (hn : n₀ ≤ w.heap.size) (W : World) (l : Nat) (o o' : Obj) (hl : w.heap.size ≤ l) (h : W.heap[l]? = some o) (h1 : o.isCells = false) (h2 : o.isWalk = false) : KeepT n₀ R W (W.putObj l o') :=
  KeepT.of_same (belowK_b hn W l o o' hl h h1 h2) fun i cs t fr _ _ ho => (World.putObj_heap_other (fun e => by subst e; rw [h] at ho; injection ho with ho; rw [ho] at h1; cases h1)).trans ho
theorem KeepT.of_below {n₀ : Nat} {R : Nat → Prop} {A B : World} (h : Below A.heap.size A B) (hn : n₀ ≤ A.heap.size) : KeepT n₀ R A B := KeepT.of_same (h.mono hn) fun i cs t fr _ _ ho => (h.block i (Array.getElem?_eq_some_iff.1 ho).1).trans ho
theorem KeepT.set {n₀ : Nat} {R : Nat → Prop} (W : World) (b o : Nat) (v : Value) (h : n₀ ≤ b) (hR : R b) : KeepT n₀ R W (W.setCell ⟨b, o, none⟩ v) :=
  KeepT.of_same ((Below.refl n₀ W).setCell (p := ⟨b, o, none⟩) h _) fun i cs t fr hi _ ho => (Below.heap_setCell _ _ _ _ (fun e => hi (by rw [e]; exact hR))).trans ho
/-- A line's further cells may be written. -/
theorem KeepT.setLine {n₀ : Nat} {R : Nat → Prop} (W : World) (b j : Nat) (v : Value) (h : n₀ ≤ b) {cs0 : Array Value} (hb : W.heap[b]? = some (.cells cs0 28 (0, 0))) (h0 : 0 < j) (hj : j < cs0.size) : KeepT n₀ R W (W.setCell ⟨b, j, none⟩ v) :=
  ⟨(Below.refl n₀ W).setCell (p := ⟨b, j, none⟩) h _, fun i cs t fr hi _ ho => by
    by_cases e : i = b
    · subst e
      rw [hb] at ho
      cases ho
      have := blk_put hb j v rfl
      exact ⟨_, this, by simp [Array.getElem?_setIfInBounds]; omega, fun hn => absurd rfl hn⟩
    · exact ⟨cs, (Below.heap_setCell _ _ _ _ e).trans ho, rfl, fun _ => rfl⟩⟩
/-- A line's cells. -/
def lineC (x : S28) : Array Value := #[.string x.f0, .int .i64 x.f1.f0, .int .i64 x.f1.f1, .int .i64 x.f1.f2, .int .i64 x.f1.f3, .int .i32 x.f1.f4, .string x.f2]
/-- How many lines are no marks. -/
def isMark (x : S28) : Bool := decide (0 < x.f0.size)
def cnt : List S28 → Nat
  | [] => 0
  | x :: r => (if isMark x then 0 else 1) + cnt r
theorem cnt_append (a b : List S28) : cnt (a ++ b) = cnt a + cnt b := by
  induction a with
  | nil => simp [cnt]
  | cons x r ih => simp only [List.cons_append, cnt, ih]; omega
theorem cnt_le (l : List S28) : cnt l ≤ l.length := by
  induction l with
  | nil => simp [cnt]
  | cons x r ih => simp only [cnt, List.length_cons]; split <;> omega
/-- Lines, each with its place. -/
def placedL : List S28 → Nat → List (Int × S28)
  | [], _ => []
  | x :: r, k => ((k : Int), x) :: placedL r (if isMark x then k else k + 1)
theorem placedL_append (a b : List S28) (k : Nat) : placedL (a ++ b) k = placedL a k ++ placedL b (k + cnt a) := by
  induction a generalizing k with
  | nil => simp [placedL, cnt]
  | cons x r ih =>
    simp only [List.cons_append, placedL, ih, cnt]
    split <;> simp [Nat.add_assoc]
theorem placedL_length (l : List S28) (k : Nat) : (placedL l k).length = l.length := by
  induction l generalizing k with
  | nil => rfl
  | cons x r ih => simp [placedL, ih]
def come (l : List S28) (k : Nat) : List (Int × S28) := placedL (l.take k) 0
theorem come_succ (l : List S28) (k : Nat) (hk : k < l.length) : come l (k + 1) = come l k ++ [(((cnt (l.take k) : Nat) : Int), rd_T28 l (k : Int))] := by
  have e : l.take (k + 1) = l.take k ++ [l[k]] := by rw [List.take_succ_eq_append_getElem hk]
  have e2 : rd_T28 l (k : Int) = l[k] := by simp [rd_T28, List.getD_eq_getElem?_getD, hk]
  unfold come
  rw [e, placedL_append, e2, Nat.zero_add]
  simp [placedL]
theorem cnt_succ (l : List S28) (k : Nat) (hk : k < l.length) : cnt (l.take (k + 1)) = cnt (l.take k) + (if isMark (rd_T28 l (k : Int)) then 0 else 1) := by
  have e : l.take (k + 1) = l.take k ++ [l[k]] := by rw [List.take_succ_eq_append_getElem hk]
  have e2 : rd_T28 l (k : Int) = l[k] := by simp [rd_T28, List.getD_eq_getElem?_getD, hk]
  rw [e, cnt_append, e2]
  simp [cnt]
theorem come_all (l : List S28) : come l l.length = placedL l 0 := by simp [come]
theorem come_prefix (l : List S28) (k : Nat) : come l k <+: placedL l 0 := by
  refine ⟨placedL (l.drop k) (0 + cnt (l.take k)), ?_⟩
  unfold come
  rw [← placedL_append, List.take_append_drop]
theorem come_length (l : List S28) (k : Nat) (hk : k ≤ l.length) : (come l k).length = k := by
  unfold come
  rw [placedL_length]
  simp; omega
theorem mark_iff (s : ByteArray) : (s.toList = []) ↔ s.size = 0 := by
  have hl : s.toList.length = s.size := by rw [ByteArray.toList_eq]; exact data_length s
  rw [← hl]
  exact List.length_eq_zero_iff.symm
theorem placed_calls (A : Option Addr) (n c : Nat) (w : World) : Calls Tryd.prog 19 #[.slice A n c] w fun e w' => e = .returned (.func (.func 32) #[] #[.pointer (some ⟨w.heap.size, 0, none⟩)]) ∧ w' = w.alloc (.cells #[.slice A n c] 22) := by
  go_enter Tryd.func19, Tryd.ntmps19
  go_wp2
  go_ret
  exact ⟨rfl, rfl⟩
set_option maxRecDepth 100000 in
set_option maxHeartbeats 8000000 in
theorem placed1_in (n : Nat) (hn : 1 ≤ n) (l Bl c : Nat) (n₀ : Nat) (R : Nat → Prop) (A : Option Addr) (xs : List S28) (w0 : World)
    (hr : Kd.C k28 w0 A xs.length xs) (hn0 : w0.heap.size = n₀)
    (J Jx : List (Int × S28) → World → Prop) (W : World) (hW0 : Below n₀ w0 W)
    (hJ : ∀ pre A B, J pre A → Below A.heap.size A B → J pre B)
    (hY : ∀ pre (x : Int × S28) W1, x ∈ placedL xs 0 → J pre W1 → pre.length < xs.length → YieldAt Fence.wide (n - 1) Tryd.prog l #[.int .i64 x.1, .agg (lineC x.2)] W1 fun e W' =>
      (e = .returned (.bool true) ∧ J (pre ++ [x]) W' ∧ KeepT n₀ R W1 W') ∨ (e = .returned (.bool false) ∧ Jx (pre ++ [x]) W'))
    (hBl : W.heap[Bl]? = some (.cells #[.slice A xs.length c] 22 (0, 0))) (hnR : ¬ R Bl) (hRW : ∀ i, R i → i < W.heap.size) (h0 : J [] W) :
    CallsIn Fence.wide n Tryd.prog 32 #[.func (.yield l) #[] #[], .pointer (some ⟨Bl, 0, none⟩)] W fun e W' => (∃ v, e = .returned v) ∧
      ((∃ ys, ys = placedL xs 0 ∧ J ys W') ∨ (∃ pre, pre <+: placedL xs 0 ∧ Jx pre W')) := by
  have hmax : xs.length ≤ 9223372036854775807 := hr.2.1
  have hbc := blk_cell hBl 0
  simp only [List.getElem?_toArray, List.getElem?_cons_zero] at hbc
  refine callsIn_of_wp Tryd.func32 rfl trivial ?_ rfl
  simp only [Tryd.ntmps32, List.size_toArray, List.length_cons, List.length_nil, Nat.reduceAdd, Nat.reduceSub, Array.replicate_succ, Array.replicate_zero, List.push_toArray, List.append_toArray, List.nil_append, List.cons_append]
  gi_wp2
  gi_loopw [3, 8] (fun a i wr => ∃ k : Nat, k ≤ xs.length ∧ i = .int .i64 k ∧ a = .int .i64 (cnt (xs.take k)) ∧ J (come xs k) wr ∧ KeepT n₀ R W wr ∧ W.heap.size ≤ wr.heap.size) (fun _ i _ => xs.length - (intOf i).toNat)
  case atStart => exact ⟨0, Nat.zero_le _, rfl, by simp [cnt], h0, KeepT.refl _ _ _, Nat.le_refl _⟩
  case round =>
    obtain ⟨k, hk, rfl, rfl, hJs, hkb, hsz⟩ := hrel
    by_cases hlt : k < xs.length
    · have hrW : Kd.C k28 wr A xs.length xs := Kd.C_below hr (hn0 ▸ hW0.trans hkb.1)
      obtain ⟨ad, e1, hx0, hx1, hx2, hx3, hx4, hx5, hx6⟩ := at_T28 hrW (k : Int) (by omega) (by omega)
      cases e1
      simp only [Int.toNat_natCast] at hx0 hx1 hx2 hx3 hx4 hx5 hx6
      have hcs := come_succ xs k hlt
      have hct := cnt_succ xs k hlt
      have hcl := cnt_le (xs.take k)
      have hlen := come_length xs k hk
      rw [List.length_take] at hcl
      have hy0 := hY (come xs k) (((cnt (xs.take k) : Nat) : Int), rd_T28 xs (k : Int)) (wr.alloc (.cells (lineC (rd_T28 xs (k : Int))) 28)) ((come_prefix xs (k + 1)).subset (by rw [hcs]; simp)) (hJ _ _ _ hJs ((Below.refl _ wr).alloc (Nat.le_refl _) _)) (by omega)
      have hpre := come_prefix xs (k + 1)
      rw [← hcs] at hy0
      have hmi := mark_iff (rd_T28 xs (k : Int)).f0
      have hmk : isMark (rd_T28 xs (k : Int)) = decide (0 < (rd_T28 xs (k : Int)).f0.size) := rfl
      have hn1 : cnt (xs.take k) ≤ k := by omega
      clear hcl
      unfold lineC at hy0
      generalize rd_T28 xs (k : Int) = x at *
      generalize cnt (xs.take k) = q at *
      generalize hq1 : cnt (xs.take (k + 1)) = q1 at *
      generalize hp1 : come xs (k + 1) = pre1 at *
      have HQ1 := Lib.hid hq1
      have HP1 := Lib.hid hp1
      clear hq1 hp1
      have HP := Lib.hid hpre
      have HCT := Lib.hid hct
      have HMK := Lib.hid hmk
      have HKB := Lib.hid hkb
      clear hpre hct hmk hcs hkb hlen hJs hr hrW hbc
      obtain ⟨fn, tmps, assign, body, hy, hR⟩ := hy0
      gi_wp2
      refine hR.mono ?_
      have hbx := blk_new wr (.cells #[.string x.f0, .int .i64 x.f1.f0, .int .i64 x.f1.f1, .int .i64 x.f1.f2, .int .i64 x.f1.f3, .int .i32 x.f1.f4, .string x.f2] 28)
      have hnb : ¬ R wr.heap.size := fun h => by have := hRW _ h; omega
      rintro e_ W3 (⟨rfl, hJ3, hk3⟩ | ⟨rfl, hJx3⟩)
      · obtain ⟨cs3, hb3, hcs3, _⟩ := hk3.2 _ _ _ _ hnb (by decide) hbx
        have hc3 := blk_cell hb3 0
        rw [hcs3] at hc3
        simp only [List.getElem?_toArray, List.getElem?_cons_zero] at hc3
        have hs3 := hk3.1
        have hz3 : wr.heap.size < W3.heap.size := (Array.getElem?_eq_some_iff.1 hb3).1
        have hall : KeepT n₀ R W W3 := (HKB.out.trans (KeepT.of_below (below_alloc (Below.refl _ wr) _) (by have := hW0.size; omega))).trans hk3
        have HALL := Lib.hid hall
        clear hall hk3 hs3 hb3 hbx
        by_cases hm : x.f0.toList = []
        · have hm2 : x.f0.toList.isEmpty = true := by rw [hm]; rfl
          have hz : x.f0.size = 0 := hmi.1 hm
          have HCT2 : Hid (q1 = q + 1) := Lib.hid (by rw [HCT.out, HMK.out, hz]; rfl)
          clear hmi hz
          gi_wp2
          go_roundw
          case rel => exact ⟨k + 1, by omega, by go_num, by rw [HQ1.out, HCT2.out]; go_num, by rw [HP1.out]; exact hJ3, HALL.out, by omega⟩
          case measure => simp [intOf]; omega
        · have hm2 : x.f0.toList.isEmpty = false := by cases e : x.f0.toList with | nil => exact absurd e hm | cons a b => rfl
          have hz : ¬ x.f0.size = 0 := fun h => hm (hmi.2 h)
          have HCT2 : Hid (q1 = q) := Lib.hid (by rw [HCT.out, HMK.out, decide_eq_true (by omega)]; rfl)
          clear hmi hz
          gi_wp2
          go_roundw
          case rel => exact ⟨k + 1, by omega, by go_num, by rw [HQ1.out, HCT2.out], by rw [HP1.out]; exact hJ3, HALL.out, by omega⟩
          case measure => simp [intOf]; omega
      · gi_wp2
        refine bodyPost_ret (results_none rfl _ _ _) rfl ?_
        exact ⟨⟨_, rfl⟩, .inr ⟨_, HP.out, hJx3⟩⟩
    · obtain rfl : k = xs.length := by omega
      have hca := come_all xs
      gi_wp2
      go_end0
      exact ⟨⟨_, rfl⟩, .inl ⟨_, hca, hJs⟩⟩
theorem placed_stops (n : Nat) (hn : 1 ≤ n) (Bl c n₀ : Nat) (R : Nat → Prop) (A : Option Addr) (xs : List S28) (w0 w : World)
    (hr : Kd.C k28 w0 A xs.length xs) (hn0 : w0.heap.size = n₀) (hw : Below n₀ w0 w)
    (hBl : w.heap[Bl]? = some (.cells #[.slice A xs.length c] 22 (0, 0))) (hnR : ¬ R Bl) (hRW : ∀ i, R i → i < w.heap.size) :
    SeqStopsK Fence.wide n Tryd.prog 32 #[.pointer (some ⟨Bl, 0, none⟩)] (fun x : Int × S28 => #[.int .i64 x.1, .agg (lineC x.2)]) (KeepT n₀ R) (fun ys => ys = placedL xs 0) (fun pre => pre <+: placedL xs 0) xs.length w := fun l J Jx W hW hJ hJx hY h0 =>
  placed1_in n hn l Bl c n₀ R A xs w0 hr hn0 J Jx W (hw.trans (hW.mono (by have := hw.size; omega))) (fun pre A B hj hb => hJ pre A B none hj (grown_of_below hb none) (fun r e => by cases e)) (fun pre x W1 _ => hY pre x W1) (blk_below hBl hW) hnR (fun i h => Nat.lt_of_lt_of_le (hRW i h) hW.size) h0
/-- The same, where each element is known to be G. -/
theorem placed_stopsG (G : Int × S28 → Prop) (n : Nat) (hn : 1 ≤ n) (Bl c n₀ : Nat) (R : Nat → Prop) (A : Option Addr) (xs : List S28) (w0 w : World)
    (hr : Kd.C k28 w0 A xs.length xs) (hn0 : w0.heap.size = n₀) (hw : Below n₀ w0 w) (hG : ∀ p ∈ placedL xs 0, G p)
    (hBl : w.heap[Bl]? = some (.cells #[.slice A xs.length c] 22 (0, 0))) (hnR : ¬ R Bl) (hRW : ∀ i, R i → i < w.heap.size) :
    SeqStopsK Fence.wide n Tryd.prog 32 #[.pointer (some ⟨Bl, 0, none⟩)] (fun x : {p : Int × S28 // G p} => #[.int .i64 x.1.1, .agg (lineC x.1.2)]) (KeepT n₀ R) (fun ys => ys.map (·.1) = placedL xs 0) (fun pre => pre.map (·.1) <+: placedL xs 0) xs.length w := fun l J Jx W hW hJ hJx hY h0 => by
  refine (placed1_in n hn l Bl c n₀ R A xs w0 hr hn0 (fun pre W => ∃ q : List {p : Int × S28 // G p}, q.map (·.1) = pre ∧ J q W) (fun pre W => ∃ q : List {p : Int × S28 // G p}, q.map (·.1) = pre ∧ Jx q W) W (hw.trans (hW.mono (by have := hw.size; omega)))
    (fun pre A B hj hb => (let ⟨q, h1, h2⟩ := hj; ⟨q, h1, hJ q A B none h2 (grown_of_below hb none) (fun r e => by cases e)⟩)) ?_ (blk_below hBl hW) hnR (fun i h => Nat.lt_of_lt_of_le (hRW i h) hW.size) ⟨[], rfl, h0⟩).mono ?_
  · rintro pre x W1 hx ⟨q, rfl, hj⟩ hl
    obtain ⟨fn, tmps, assign, body, hy, hR⟩ := hY q ⟨x, hG x hx⟩ W1 hj (by simpa using hl)
    refine ⟨fn, tmps, assign, body, hy, hR.mono ?_⟩
    rintro e W' (⟨h1, h2, h3⟩ | ⟨h1, h2⟩)
    · exact .inl ⟨h1, ⟨_, by simp, h2⟩, h3⟩
    · exact .inr ⟨h1, _, by simp, h2⟩
  · rintro e W' ⟨hv, ⟨ys, h1, q, h2, h3⟩ | ⟨pre, h1, q, h2, h3⟩⟩
    · exact ⟨hv, .inl ⟨q, h2.trans h1, h3⟩⟩
    · exact ⟨hv, .inr ⟨q, by rw [← h2] at h1; exact h1, h3⟩⟩
end Go.Proofs.YtbelnkdbghggmaaDoor.X
