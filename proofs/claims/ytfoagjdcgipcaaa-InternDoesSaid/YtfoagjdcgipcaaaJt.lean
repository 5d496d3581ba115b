/- Contracts of intern's look through the places that are asked for: asked, Find, Used; each at every table that is read; they state what the Go function returns and that nothing that lay before the call has changed. -/
import Derived.Test.YtfoagjdcgipcaaaJa
import Derived.RangeFuncNested
import Derived.RangeFuncBound
import Derived.RangeFuncCalls
import Derived.RangeFuncLeaves
import Derived.Shelf.Abstract
import Derived.Shelf.AbstractIn
import Derived.Shelf.RegionOpen
import Derived.OwnWalkIn
import Derived.TacticsInMore
import Derived.LoopNIn
import Derived.LoopIn
import Derived.Lib.Hide
import Derived.Laws.EntriesVeiled
import Derived.WalkSpells
import Derived.Sort.QuietIn
import Derived.Lib.SliceRun
namespace Go.Proofs.Ytfoagjdcgipcaaa.X
open Go.RowKit Go.Shelf Go.Proofs.YtfoagjdcgipcaaaW.PrintWords Go.Proofs.YtfoagjdcgipcaaaW.PrintLast
attribute [local go_sem] Oper.semAt_some
set_option linter.unusedVariables false
set_option linter.unusedSimpArgs false

theorem s57_ext (a b : S57) : a = b ↔ (a.f0 = b.f0 ∧ a.f1 = b.f1) := by
  cases a
  cases b
  simp
instance s57_dec : DecidableEq S57 := fun a b => decidable_of_iff (a.f0 = b.f0 ∧ a.f1 = b.f1) (s57_ext a b).symm

theorem wrap_ok (n : Int) (h0 : -9223372036854775808 ≤ n) (h1 : n ≤ 9223372036854775807) : wrap64 n = n := by unfold wrap64; omega
theorem wrap_nat (i : Nat) (h : i < 9223372036854775807) : wrap64 ((i : Int) + 1) = ((i + 1 : Nat) : Int) := by rw [wrap_ok _ (by omega) (by omega)]; rfl
theorem rd57_at (l : List S57) (i : Nat) (h : i < l.length) : rd_T57 l (i : Int) = l[i] := by simp [rd_T57, List.getD_eq_getElem?_getD, h]
theorem pairs_eq (a b : List S57) (hm : a.length ≤ 9223372036854775807) (e : a.length = b.length) (d : Nat) : ∀ (k i : Nat), i ≤ a.length → a.length - i = d → d + 1 ≤ k → api_Pair_42.l0 k a b (a.length : Int) (i : Int) = some (decide (a.drop i = b.drop i)) := by
  induction d with
  | zero =>
    intro k i h1 h2 hk
    obtain ⟨k, rfl⟩ : ∃ m, k = m + 1 := ⟨k - 1, by omega⟩
    obtain rfl : i = a.length := by omega
    rw [api_Pair_42.l0, if_neg (by omega), List.drop_length, e, List.drop_length]
    rfl
  | succ d ih =>
    intro k i h1 h2 hk
    obtain ⟨k, rfl⟩ : ∃ m, k = m + 1 := ⟨k - 1, by omega⟩
    have ha : i < a.length := by omega
    have hb : i < b.length := by omega
    rw [api_Pair_42.l0, if_pos (by omega), if_pos (by omega), if_pos (by omega), if_pos (by omega), wrap_nat i (by omega), rd57_at a i ha, rd57_at b i hb, ih k (i + 1) (by omega) (by omega) (by omega), List.drop_eq_getElem_cons ha, List.drop_eq_getElem_cons hb]
    generalize a.drop (i + 1) = u
    generalize b.drop (i + 1) = v
    generalize a[i] = x
    generalize b[i] = y
    by_cases h : x = y
    · subst h
      simp
    · rw [if_pos]
      · simp [h]
      · rw [s57_ext] at h
        by_cases h1 : x.f0 = y.f0
        · simp [h1] at h ⊢
          exact h
        · simp [h1]
theorem same_eq (a b : List S57) (hm : a.length ≤ 9223372036854775807) : label_Same.f (a.length + 1) a b = some (decide (a = b)) := by
  unfold label_Same.f api_Pair_42.f
  by_cases e : a.length = b.length
  · rw [if_pos (by omega)]
    have := pairs_eq a b hm e a.length (a.length + 1) 0 (by omega) (by omega) (by omega)
    simp only [List.drop_zero] at this
    rw [show (0 : Int) = ((0 : Nat) : Int) from rfl, this]
    rfl
  · rw [if_neg (by omega)]
    have : a ≠ b := fun h => e (by rw [h])
    simp [this]
/-- label.Same: whether they are alike. -/
theorem same_any (A0 : Option Addr) (c0 : Nat) (l0 : List S57) (A1 : Option Addr) (c1 : Nat) (l1 : List S57) (w : World) (hr0 : Kd.C k57 w A0 l0.length l0) (hc0 : l0.length ≤ c0) (hr1 : Kd.C k57 w A1 l1.length l1) (hc1 : l1.length ≤ c1) :
    Calls Try.prog 32 #[.slice A0 l0.length c0, .slice A1 l1.length c1] w fun e w' => e = .returned (.bool (decide (l0 = l1))) ∧ Below w.heap.size w w' :=
  (label_Same.calls (l0.length + 1) A0 c0 l0 A1 c1 l1 _ w hr0 hc0 hr1 hc1 (same_eq l0 l1 hr0.2.1)).mono fun _ _ ⟨he, hd⟩ => ⟨he, hd.below⟩

theorem new_cell (W : World) (cs : Array Value) (t : TypeId) (j : Nat) : (W.alloc (.cells cs t)).cell? ⟨W.heap.size, j, none⟩ = cs[j]? := by
  have h : (W.alloc (.cells cs t)).heap[W.heap.size]? = some (.cells cs t (0, 0)) := World.alloc_heap_new W _
  unfold World.cell?
  rw [h]
  simp
/-- What the rounds of the calls leave: the elder world, and some blocks. -/
def KeepB (n₀ : Nat) (bs : List Nat) (A B : World) : Prop := Below n₀ A B ∧ ∀ i, i ∈ bs → B.heap[i]? = A.heap[i]?
theorem KeepB.refl (n₀ : Nat) (bs : List Nat) (A : World) : KeepB n₀ bs A A := ⟨Below.refl _ _, fun _ _ => rfl⟩
theorem KeepB.trans {n₀ : Nat} {bs : List Nat} {A B C : World} (h : KeepB n₀ bs A B) (k : KeepB n₀ bs B C) : KeepB n₀ bs A C :=
  ⟨h.1.trans k.1, fun i hi => (k.2 i hi).trans (h.2 i hi)⟩
theorem KeepB.putObj {n₀ : Nat} {bs : List Nat} {w : World} (hn : n₀ ≤ w.heap.size) (hb : ∀ i, i ∈ bs → i < w.heap.size) (W : World) (l : Nat) (o o' : Obj) (hl : w.heap.size ≤ l) (h : W.heap[l]? = some o) (h1 : o.isCells = false) (h2 : o.isWalk = false) : KeepB n₀ bs W (W.putObj l o') :=
  ⟨belowK_b hn W l o o' hl h h1 h2, fun i hi => World.putObj_heap_other (by have := hb i hi; omega)⟩
theorem KeepB.cell {n₀ : Nat} {bs : List Nat} {A B : World} (h : KeepB n₀ bs A B) {i : Nat} (hi : i ∈ bs) (j : Nat) : B.cell? ⟨i, j, none⟩ = A.cell? ⟨i, j, none⟩ :=
  World.cell?_of_block (w := A) (h.2 i hi)
theorem KeepB.of_below {n₀ : Nat} {bs : List Nat} {A B : World} (h : Below A.heap.size A B) (hn : n₀ ≤ A.heap.size) (hb : ∀ i, i ∈ bs → i < A.heap.size) : KeepB n₀ bs A B :=
  ⟨h.mono hn, fun i hi => h.block i (hb i hi)⟩

/-- The places, from k on, whose count is not 0. -/
def live : List Int → Nat → List Nat
  | [], _ => []
  | c :: r, k => if (c != 0) = true then k :: live r (k + 1) else live r (k + 1)
theorem live_length (l : List Int) (k : Nat) : (live l k).length ≤ l.length := by
  induction l generalizing k with
  | nil => simp [live]
  | cons x r ih => have := ih (k + 1); simp only [live]; split <;> simp <;> omega
theorem live_append (a b : List Int) (k : Nat) : live (a ++ b) k = live a k ++ live b (k + a.length) := by
  induction a generalizing k with
  | nil => simp [live]
  | cons x a ih =>
    simp only [List.cons_append, live]
    have e : k + 1 + a.length = k + (a.length + 1) := by omega
    by_cases h : (x != 0) = true
    · rw [if_pos h, if_pos h, ih, e]; simp
    · rw [if_neg h, if_neg h, ih, e]; simp
/-- What has come when k rounds are over. -/
def liveTo (l : List Int) (k : Nat) : List Nat := live (l.take k) 0
theorem liveTo_succ (l : List Int) (k : Nat) (hk : k < l.length) : liveTo l (k + 1) = if (rd l k != 0) = true then liveTo l k ++ [k] else liveTo l k := by
  unfold liveTo
  have e : l.take (k + 1) = l.take k ++ [l[k]] := by simp [hk]
  have er : rd l (k : Int) = l[k] := by simp [rd, List.getD_eq_getElem?_getD, hk]
  rw [e, live_append, er]
  have e2 : 0 + (l.take k).length = k := by simp; omega
  rw [e2]
  simp only [live]
  split <;> simp
theorem liveTo_prefix (l : List Int) (k n : Nat) (h : k ≤ n) : liveTo l k <+: liveTo l n := by
  unfold liveTo
  have h2 : (l.take n).take k = l.take k := by rw [List.take_take, Nat.min_eq_left h]
  have e := (List.take_append_drop k (l.take n)).symm
  rw [h2] at e
  rw [e, live_append]
  exact ⟨_, rfl⟩
theorem liveTo_length (l : List Int) (k : Nat) : (liveTo l k).length ≤ k := by
  have := live_length (l.take k) 0
  unfold liveTo
  simp at this
  omega

/-- How many places a table's two rows have both. -/
def both (l0 : List (List S57)) (l1 : List Int) : Nat := min l0.length l1.length
/-- Where a table's labels lie: what each place of the labels' row holds. -/
def Lays (w0 : World) (A0 : Option Addr) (l0 : List (List S57)) (val : Nat → Value) : Prop :=
  ∀ k, k < l0.length → ∃ ad A c, A0 = some ad ∧ val k = .slice A (rd_L3 l0 k).length c ∧ w0.cell? (ad.add k) = some (.slice A (rd_L3 l0 k).length c) ∧ (rd_L3 l0 k).length ≤ c ∧ Kd.C k57 w0 A (rd_L3 l0 k).length (rd_L3 l0 k)
theorem Lays.of {w0 : World} {A0 : Option Addr} {l0 : List (List S57)} (h : Kd.C (Kd.slice 57 k57) w0 A0 l0.length l0) : ∃ val, Lays w0 A0 l0 val := by
  have hx : ∀ k : Nat, ∃ v : Value, k < l0.length → ∃ ad A c, A0 = some ad ∧ v = .slice A (rd_L3 l0 k).length c ∧ w0.cell? (ad.add k) = some (.slice A (rd_L3 l0 k).length c) ∧ (rd_L3 l0 k).length ≤ c ∧ Kd.C k57 w0 A (rd_L3 l0 k).length (rd_L3 l0 k) := by
    intro k
    by_cases hk : k < l0.length
    · obtain ⟨ad, A, c, e, hc, hl, hr⟩ := at_L3 h (k : Int) (by omega) (by omega)
      exact ⟨_, fun _ => ⟨ad, A, c, e, rfl, by simpa using hc, hl, hr⟩⟩
    · exact ⟨.nilFunc, fun h => absurd h hk⟩
  exact ⟨fun k => (hx k).choose, fun k hk => (hx k).choose_spec hk⟩

set_option maxRecDepth 100000 in
set_option maxHeartbeats 4000000 in
/-- asked's closure. -/
theorem asked1_in (n : Nat) (hn : 1 ≤ n) (l B c0 c1 : Nat) (n₀ : Nat) (bs : List Nat) (A0 A1 : Option Addr) (l0 : List (List S57)) (l1 : List Int) (val : Nat → Value) (w0 : World)
    (hr0 : Kd.C (Kd.slice 57 k57) w0 A0 l0.length l0) (hv : Lays w0 A0 l0 val) (hr1 : Kd.C (Kd.int .i64) w0 A1 l1.length l1) (hn0 : w0.heap.size = n₀)
    (J Jx : List Nat → World → Prop) (W : World) (hW0 : Below n₀ w0 W)
    (hY : ∀ pre (x : Nat) W1, J pre W1 → pre.length < both l0 l1 → x < l0.length → x < l1.length → Below n₀ w0 W1 → YieldAt Fence.wide (n - 1) Try.prog l #[.int .i64 x, val x] W1 fun e W' =>
      (e = .returned (.bool true) ∧ J (pre ++ [x]) W' ∧ KeepB n₀ bs W1 W') ∨ (e = .returned (.bool false) ∧ Jx (pre ++ [x]) W'))
    (hB0 : W.cell? ⟨B, 0, none⟩ = some (.slice A0 l0.length c0)) (hB1 : W.cell? ⟨B, 1, none⟩ = some (.slice A1 l1.length c1)) (hbs : B ∈ bs) (hbl : ∀ i, i ∈ bs → i < W.heap.size) (h0 : J [] W) :
    CallsIn Fence.wide n Try.prog 41 #[.func (.yield l) #[] #[], .pointer (some ⟨B, 0, none⟩)] W fun e W' => (∃ v, e = .returned v) ∧
      ((∃ ys, ys = liveTo l1 (both l0 l1) ∧ J ys W') ∨ (∃ pre, pre <+: liveTo l1 (both l0 l1) ∧ Jx pre W')) := by
  have hmax : l0.length ≤ 9223372036854775807 := hr0.2.1
  have hmax1 : l1.length ≤ 9223372036854775807 := hr1.2.1
  have HR0 := Q4 hr0
  have HR1 := Q4 hr1
  have hmin : (if (l0.length : Int) ≤ (l1.length : Int) then (l0.length : Int) else (l1.length : Int)) = ((both l0 l1 : Nat) : Int) := by unfold both; split <;> omega
  clear hr0 hr1
  refine callsIn_of_wp Try.func41 rfl trivial ?_ rfl
  simp only [Try.ntmps41, List.size_toArray, List.length_cons, List.length_nil, Nat.reduceAdd, Nat.reduceSub, Array.replicate_succ, Array.replicate_zero, List.push_toArray, List.append_toArray, List.nil_append, List.cons_append]
  gi_wp2
  all_goals
    first
   |(have e : (l1.length : Int) = ((both l0 l1 : Nat) : Int) := (by unfold both; omega); rw [e]; clear e)
   |(have e : (l0.length : Int) = ((both l0 l1 : Nat) : Int) := (by unfold both; omega); rw [e]; clear e)
  all_goals
    have hb0 : both l0 l1 ≤ l0.length := Nat.min_le_left _ _
    have hb1 : both l0 l1 ≤ l1.length := Nat.min_le_right _ _
    gi_loopw [13] (fun i wr => ∃ k : Nat, k ≤ both l0 l1 ∧ i = .int .i64 k ∧ J (liveTo l1 k) wr ∧ KeepB n₀ bs W wr ∧ W.heap.size ≤ wr.heap.size) (fun i _ => both l0 l1 - (intOf i).toNat)
    case atStart => exact ⟨0, Nat.zero_le _, rfl, h0, KeepB.refl _ _ _, Nat.le_refl _⟩
    case round =>
      obtain ⟨k, hk, rfl, hJs, hkb, hsz⟩ := hrel
      by_cases hlt : k < both l0 l1
      · have hBW := hW0.trans hkb.1
        obtain ⟨ad1, e1, hx1⟩ := Kd.at_int HR1.out (k : Int) (by omega) (by omega)
        obtain ⟨ad0, A, c, e0, hval, hx0, hl, hr⟩ := hv k (by omega)
        cases e1
        cases e0
        simp only [Int.toNat_natCast] at hx1
        have hx1' := pw_cell_below (hn0 ▸ hBW) hx1
        have hx0' := pw_cell_below (hn0 ▸ hBW) hx0
        have hq0 := (hkb.cell hbs 0).trans hB0
        have hq1 := (hkb.cell hbs 1).trans hB1
        clear hx1 hx0
        have hsucc := liveTo_succ l1 k (by omega)
        have hlen : (liveTo l1 k).length < both l0 l1 := by have := liveTo_length l1 k; omega
        have hpre := liveTo_prefix l1 (k + 1) (both l0 l1) (by omega)
        generalize rd l1 (k : Int) = cv at hx1' hsucc
        generalize hcb : (cv != 0) = cb at hsucc
        have HS := Lib.hid hsucc
        have HP := Lib.hid hpre
        have p1 : ((k : Int) < (l1.length : Int)) = True := eq_true (by omega)
        have p0 : ((k : Int) < (l0.length : Int)) = True := eq_true (by omega)
        have pb : ((k : Int) < ((both l0 l1 : Nat) : Int)) = True := eq_true (by omega)
        clear hsucc hpre
        cases cb with
        | false =>
          gi_wp2
          refine ⟨fun _ h => (by cases h), ?_⟩
          gi_wp2
          go_roundw
          case rel =>
            refine ⟨k + 1, by omega, by go_num, ?_, hkb, hsz⟩
            rw [HS.out, if_neg (by simp)]
            exact hJs
          case measure => simp [intOf]; omega
        | true =>
          have hy0 := hY _ k wr hJs hlen (by omega) (by omega) hBW
          rw [hval] at hy0
          obtain ⟨fn, tmps, assign, body, hy, hR⟩ := hy0
          gi_wp2
          refine hR.mono ?_
          rintro e W3 (⟨rfl, hJ3, hk3⟩ | ⟨rfl, hJx3⟩)
          · have hs4 := hk3.1.size
            gi_wp2
            go_roundw
            case rel =>
              refine ⟨k + 1, by omega, by go_num, ?_, hkb.trans hk3, by omega⟩
              rw [HS.out, if_pos trivial]
              exact hJ3
            case measure => simp [intOf]; omega
          · gi_wp2
            refine bodyPost_ret (results_none rfl _ _ _) rfl ?_
            refine ⟨⟨_, rfl⟩, .inr ⟨liveTo l1 k ++ [k], ?_, hJx3⟩⟩
            have := HP.out
            rwa [HS.out, if_pos trivial] at this
      · obtain rfl : k = both l0 l1 := by omega
        gi_wp2
        go_end0
        exact ⟨⟨_, rfl⟩, .inl ⟨_, rfl, hJs⟩⟩

/-- asked as an iterator: the places that are asked for, in order, with their labels. -/
theorem asked1_stops (n : Nat) (hn : 1 ≤ n) (B c0 c1 : Nat) (n₀ : Nat) (bs : List Nat) (A0 A1 : Option Addr) (l0 : List (List S57)) (l1 : List Int) (val : Nat → Value) (w0 w : World)
    (hr0 : Kd.C (Kd.slice 57 k57) w0 A0 l0.length l0) (hv : Lays w0 A0 l0 val) (hr1 : Kd.C (Kd.int .i64) w0 A1 l1.length l1) (hn0 : w0.heap.size = n₀) (hw : Below n₀ w0 w)
    (hB0 : w.cell? ⟨B, 0, none⟩ = some (.slice A0 l0.length c0)) (hB1 : w.cell? ⟨B, 1, none⟩ = some (.slice A1 l1.length c1)) (hbs : B ∈ bs) (hbl : ∀ i, i ∈ bs → i < w.heap.size) :
    SeqStopsK Fence.wide n Try.prog 41 #[.pointer (some ⟨B, 0, none⟩)] (fun x : Nat => #[.int .i64 x, val x]) (KeepB n₀ bs) (fun ys => ys = liveTo l1 (both l0 l1)) (fun pre => pre <+: liveTo l1 (both l0 l1)) (both l0 l1) w := fun l J Jx W hW hJ hJx hY h0 => by
  have hk : KeepB n₀ bs w W := KeepB.of_below hW (by have := hw.size; omega) hbl
  exact asked1_in n hn l B c0 c1 n₀ bs A0 A1 l0 l1 val w0 hr0 hv hr1 hn0 J Jx W (hw.trans hk.1) (fun pre x W1 hj hl _ _ _ => hY pre x W1 hj hl) ((hk.cell hbs 0).trans hB0) ((hk.cell hbs 1).trans hB1) hbs (fun i hi => by have := hbl i hi; have := hW.size; omega) h0

/-- asked: the table is boxed. -/
theorem asked_calls (A0 A1 : Option Addr) (n0 c0 n1 c1 : Nat) (w : World) : Calls Try.prog 31 #[.agg #[.slice A0 n0 c0, .slice A1 n1 c1]] w fun e w' => e = .returned (.func (.func 41) #[] #[.pointer (some ⟨w.heap.size, 0, none⟩)]) ∧ w' = w.alloc (.cells #[.slice A0 n0 c0, .slice A1 n1 c1] 60) := by
  go_enter Try.func31, Try.ntmps31
  go_wp2
  go_ret
  exact ⟨rfl, rfl⟩

set_option maxRecDepth 100000 in
set_option maxHeartbeats 4000000 in
/-- Used: how many places are asked for. -/
theorem Used_any (A0 A1 : Option Addr) (c0 c1 : Nat) (l0 : List (List S57)) (l1 : List Int) (w : World) (hr0 : Kd.C (Kd.slice 57 k57) w A0 l0.length l0) (hr1 : Kd.C (Kd.int .i64) w A1 l1.length l1) :
    Calls Try.prog 14 #[.agg #[.slice A0 l0.length c0, .slice A1 l1.length c1]] w fun e w' => e = .returned (.int .i64 (liveTo l1 (both l0 l1)).length) ∧ Below w.heap.size w w' := by
  obtain ⟨val, hv⟩ := Lays.of hr0
  have hmax : both l0 l1 ≤ 9223372036854775807 := Nat.le_trans (Nat.min_le_left _ _) hr0.2.1
  have hasked := fun W => (callsIn_wide (n := 2)).2 (asked_calls A0 A1 l0.length c0 l1.length c1 W)
  refine (callsIn_wide (n := 3)).1 ?_
  refine callsIn_of_wp_marks Try.func14 rfl trivial ?_ rfl
  simp only [Try.ntmps14, List.size_toArray, List.length_cons, List.length_nil, Nat.reduceAdd, Nat.reduceSub, Array.replicate_succ, Array.replicate_zero, List.push_toArray, List.append_toArray, List.nil_append, List.cons_append]
  gi_wp2_with (refine ⟨trivial, ?_⟩; gi_at_call 31; refine (hasked _).mono ?_; rintro e w2 ⟨rfl, rfl⟩)
  obtain ⟨W3, hW3⟩ : ∃ W3, W3 = ((w.alloc (.cells #[.slice A0 l0.length c0, .slice A1 l1.length c1] 27)).alloc (.cells #[.int .i64 0] 3)).alloc (.cells #[.slice A0 l0.length c0, .slice A1 l1.length c1] 60) := ⟨_, rfl⟩
  rw [← hW3]
  have hsz : W3.heap.size = w.heap.size + 3 := by rw [hW3]; simp
  have hB : Below w.heap.size w W3 := by rw [hW3]; exact (((Below.refl _ w).alloc (Nat.le_refl _) _).alloc (by simp) _).alloc (by simp; omega) _
  have hb3 : Boxed W3 (w.heap.size + 1) 3 (.int .i64 0) := by
    have := (Boxed.new (w.alloc (.cells #[.slice A0 l0.length c0, .slice A1 l1.length c1] 27)) 3 (.int .i64 0)).alloc (.cells #[.slice A0 l0.length c0, .slice A1 l1.length c1] 60)
    rw [World.size_alloc] at this
    rwa [hW3]
  have hcB0 : W3.cell? ⟨w.heap.size + 1 + 1, 0, none⟩ = some (.slice A0 l0.length c0) := by
    have := new_cell ((w.alloc (.cells #[.slice A0 l0.length c0, .slice A1 l1.length c1] 27)).alloc (.cells #[.int .i64 0] 3)) #[.slice A0 l0.length c0, .slice A1 l1.length c1] 60 0
    rw [World.size_alloc, World.size_alloc] at this
    rw [hW3]
    exact this
  have hcB1 : W3.cell? ⟨w.heap.size + 1 + 1, 1, none⟩ = some (.slice A1 l1.length c1) := by
    have := new_cell ((w.alloc (.cells #[.slice A0 l0.length c0, .slice A1 l1.length c1] 27)).alloc (.cells #[.int .i64 0] 3)) #[.slice A0 l0.length c0, .slice A1 l1.length c1] 60 1
    rw [World.size_alloc, World.size_alloc] at this
    rw [hW3]
    exact this
  have hbs : ∀ i, i ∈ [w.heap.size + 1 + 1] → i < W3.heap.size := by
    intro i hi
    simp at hi
    omega
  have hseq := asked1_stops 2 (by decide) (w.heap.size + 1 + 1) c0 c1 w.heap.size [w.heap.size + 1 + 1] A0 A1 l0 l1 val w W3 hr0 hv hr1 rfl hB hcB0 hcB1 (by simp) hbs
  clear hW3 hcB0 hcB1
  refine wpIn_rangeFunc_ownG rfl (by decide) (gf := 41) (lb := #[.pointer (some ⟨w.heap.size + 1 + 1, 0, none⟩)]) rfl trivial (enters_of Try.func41 (by kernel_rfl) rfl) hseq (fun h k => KeepB.trans h k) (KeepB.putObj (by omega) hbs) (Below.refl _ _) (fun _ => rfl)
    (fun pre W => Boxed W (w.heap.size + 1) 3 (.int .i64 pre.length) ∧ Below w.heap.size w W)
    (fun _ _ _ => False)
    (OwnFrom.and (Own.from (boxed_own _ _ _) _) (ownFrom_below (Nat.le_refl _) (by omega)))
    (fun _ _ _ _ _ hs _ _ => hs)
    ⟨hb3, hB⟩
    (fun x => { tmps := #[.agg #[.slice A0 l0.length c0, .slice A1 l1.length c1], .pointer (some ⟨w.heap.size, 0, none⟩), .int .i64 0, .pointer (some ⟨w.heap.size + 1, 0, none⟩), .agg #[.slice A0 l0.length c0, .slice A1 l1.length c1], .agg #[.slice A0 l0.length c0, .slice A1 l1.length c1], .func (.func 41) #[] #[.pointer (some ⟨w.heap.size + 1 + 1, 0, none⟩)], .int .i64 x, val x, undef, undef, undef], defers := [] }) ?assign ?body ?done ?stop
  case assign =>
    intro l x W K hK
    gi_wp2
    simpa using hK
  case body =>
    rintro l pre x W ⟨hv, hB⟩ hl
    have hc := hv.cell
    have hf := hv.frozen
    have hl2 : pre.length < 9223372036854775807 := by omega
    gi_wp2
    refine ⟨(KeepsOthers.setCell _ _ _).from _, ⟨(Below.refl _ _).setCell (p := ⟨w.heap.size + 1, 0, none⟩) (by simp) _, fun i hi => Below.heap_setCell _ _ _ _ (by simp at hi; simp; omega)⟩, ?_, hB.setCell (p := ⟨w.heap.size + 1, 0, none⟩) (by simp) _⟩
    have := hv.set (.int .i64 ((pre ++ [x]).length : Nat))
    simpa using this
  case done =>
    rintro D ys W hD rfl ⟨hv, hB⟩ hK
    have hc := hv.cell
    gi_wp2
    refine ⟨by simp, .inl ⟨_, _, rfl, run_takeDeferred hK, ?_⟩⟩
    exact ⟨_, results_tmp rfl _ _ _, rfl, hB.trans (belowK_b (w := w) (Nat.le_refl _) W D _ _ (by omega) hK rfl rfl)⟩
  case stop =>
    rintro D c pre W _ _ h _
    exact h.elim
def intern_Used.f (l0_0 : List (List S57)) (l0_1 : List Int) : Option Int := some ((liveTo l0_1 (both l0_0 l0_1)).length : Int)
theorem intern_Used.calls (A0_0 : Option Addr) (c0_0 : Nat) (l0_0 : List (List (S57))) (A0_1 : Option Addr) (c0_1 : Nat) (l0_1 : List Int) (r : Int) (w : World) (hr0_0 : Kd.C (Kd.slice 57 k57) w A0_0 l0_0.length l0_0) (hc0_0 : l0_0.length ≤ c0_0) (hr0_1 : Kd.C (Kd.int .i64) w A0_1 l0_1.length l0_1) (hc0_1 : l0_1.length ≤ c0_1) (h : intern_Used.f l0_0 l0_1 = some r) :
    Calls Try.prog 14 #[.agg #[.slice A0_0 l0_0.length c0_0, .slice A0_1 l0_1.length c0_1]] w fun e w' => e = .returned (.int .i64 r) ∧ Below w.heap.size w w' := by
  rw [← Option.some.inj h]
  exact Used_any A0_0 A0_1 c0_0 c0_1 l0_0 l0_1 w hr0_0 hr0_1

/-- asked as an iterator, each place told to lie in the table. -/
theorem asked1_stopsF (n : Nat) (hn : 1 ≤ n) (B c0 c1 : Nat) (n₀ : Nat) (bs : List Nat) (A0 A1 : Option Addr) (l0 : List (List S57)) (l1 : List Int) (val : Nat → Value) (w0 w : World)
    (hr0 : Kd.C (Kd.slice 57 k57) w0 A0 l0.length l0) (hv : Lays w0 A0 l0 val) (hr1 : Kd.C (Kd.int .i64) w0 A1 l1.length l1) (hn0 : w0.heap.size = n₀) (hw : Below n₀ w0 w)
    (hB0 : w.cell? ⟨B, 0, none⟩ = some (.slice A0 l0.length c0)) (hB1 : w.cell? ⟨B, 1, none⟩ = some (.slice A1 l1.length c1)) (hbs : B ∈ bs) (hbl : ∀ i, i ∈ bs → i < w.heap.size) :
    SeqStopsK Fence.wide n Try.prog 41 #[.pointer (some ⟨B, 0, none⟩)] (fun x : { j : Nat // j < l0.length } => #[.int .i64 (x.1 : Int), val x.1]) (KeepB n₀ bs) (fun ys => ys.map (fun x => x.1) = liveTo l1 (both l0 l1)) (fun pre => pre.map (fun x => x.1) <+: liveTo l1 (both l0 l1)) (both l0 l1) w := fun l J Jx W hW hJ hJx hY h0 => by
  have hk : KeepB n₀ bs w W := KeepB.of_below hW (by have := hw.size; omega) hbl
  refine (asked1_in n hn l B c0 c1 n₀ bs A0 A1 l0 l1 val w0 hr0 hv hr1 hn0 (fun pre W => ∃ q : List { j : Nat // j < l0.length }, q.map (fun x => x.1) = pre ∧ J q W) (fun pre W => ∃ q : List { j : Nat // j < l0.length }, q.map (fun x => x.1) = pre ∧ Jx q W) W (hw.trans hk.1)
    ?_ ((hk.cell hbs 0).trans hB0) ((hk.cell hbs 1).trans hB1) hbs (fun i hi => by have := hbl i hi; have := hW.size; omega) ⟨[], rfl, h0⟩).mono ?_
  · rintro pre x W1 ⟨q, hq, hj⟩ hl hx0 hx1 _
    have hlen : q.length < both l0 l1 := by rw [← hq] at hl; simpa using hl
    refine (hY q ⟨x, hx0⟩ W1 hj hlen).mono ?_
    rintro e W' (⟨he, hj', hk'⟩ | ⟨he, hj'⟩)
    · exact .inl ⟨he, ⟨_, by simp [hq], hj'⟩, hk'⟩
    · exact .inr ⟨he, ⟨_, by simp [hq], hj'⟩⟩
  · rintro e W' ⟨hv, ⟨ys, rfl, q, hq, hj⟩ | ⟨pre, hpre, q, hq, hj⟩⟩
    · exact ⟨hv, .inl ⟨q, hq, hj⟩⟩
    · exact ⟨hv, .inr ⟨q, (by rw [hq]; exact hpre : q.map (fun x => x.1) <+: liveTo l1 (both l0 l1)), hj⟩⟩

/-- The first of some places that holds a label. -/
def findIn (l0 : List (List S57)) (l : List S57) : List Nat → Int × Bool
  | [] => (0, false)
  | i :: r => if rd_L3 l0 i = l then ((i : Int), true) else findIn l0 l r
theorem findIn_none (l0 : List (List S57)) (l : List S57) (zs : List Nat) (h : ∀ i ∈ zs, rd_L3 l0 (i : Int) ≠ l) : findIn l0 l zs = (0, false) := by
  induction zs with
  | nil => rfl
  | cons z r ih =>
    rw [findIn, if_neg (h z (by simp))]
    exact ih fun i hi => h i (by simp [hi])
theorem findIn_some (l0 : List (List S57)) (l : List S57) (pre : List Nat) (z : Nat) (r : List Nat) (h : ∀ i ∈ pre, rd_L3 l0 (i : Int) ≠ l) (hz : rd_L3 l0 (z : Int) = l) : findIn l0 l (pre ++ [z] ++ r) = ((z : Int), true) := by
  induction pre with
  | nil => simp [findIn, hz]
  | cons a pre ih =>
    rw [List.cons_append, List.cons_append, findIn, if_neg (h a (by simp))]
    exact ih fun i hi => h i (by simp [hi])
set_option maxRecDepth 100000 in
set_option maxHeartbeats 4000000 in
/-- Find: the first place that is asked for with a label, and whether there is one. -/
theorem Find_any (A0 A1 A2 : Option Addr) (c0 c1 c2 : Nat) (l0 : List (List S57)) (l1 : List Int) (l : List S57) (w : World) (hr0 : Kd.C (Kd.slice 57 k57) w A0 l0.length l0) (hr1 : Kd.C (Kd.int .i64) w A1 l1.length l1) (hr2 : Kd.C k57 w A2 l.length l) (hc2 : l.length ≤ c2) :
    Calls Try.prog 13 #[.agg #[.slice A0 l0.length c0, .slice A1 l1.length c1], .slice A2 l.length c2] w fun e w' => e = .returned (.tuple #[.int .i64 (findIn l0 l (liveTo l1 (both l0 l1))).1, .bool (findIn l0 l (liveTo l1 (both l0 l1))).2]) ∧ Below w.heap.size w w' := by
  obtain ⟨val, hv⟩ := Lays.of hr0
  have hasked := fun W => (callsIn_wide (n := 2)).2 (asked_calls A0 A1 l0.length c0 l1.length c1 W)
  refine (callsIn_wide (n := 3)).1 ?_
  refine callsIn_of_wp_marks Try.func13 rfl trivial ?_ rfl
  simp only [Try.ntmps13, List.size_toArray, List.length_cons, List.length_nil, Nat.reduceAdd, Nat.reduceSub, Array.replicate_succ, Array.replicate_zero, List.push_toArray, List.append_toArray, List.nil_append, List.cons_append]
  gi_wp2_with (refine ⟨trivial, ?_⟩; gi_at_call 31; refine (hasked _).mono ?_; rintro e w2 ⟨rfl, rfl⟩)
  obtain ⟨W3, hW3⟩ : ∃ W3, W3 = ((((w.alloc (.cells #[.slice A0 l0.length c0, .slice A1 l1.length c1] 27)).alloc (.cells #[.slice A2 l.length c2] 29)).alloc (.cells #[.int .i64 0] 3)).alloc (.cells #[.bool false] 4)).alloc (.cells #[.slice A0 l0.length c0, .slice A1 l1.length c1] 60) := ⟨_, rfl⟩
  rw [← hW3]
  have hsz : W3.heap.size = w.heap.size + 5 := by rw [hW3]; simp
  have hB : Below w.heap.size w W3 := by rw [hW3]; exact (((((Below.refl _ w).alloc (Nat.le_refl _) _).alloc (by simp) _).alloc (by simp; omega) _).alloc (by simp; omega) _).alloc (by simp; omega) _
  have hb1 : Boxed W3 (w.heap.size + 1) 29 (.slice A2 l.length c2) := by
    have := (((Boxed.new (w.alloc (.cells #[.slice A0 l0.length c0, .slice A1 l1.length c1] 27)) 29 (.slice A2 l.length c2)).alloc (.cells #[.int .i64 0] 3)).alloc (.cells #[.bool false] 4)).alloc (.cells #[.slice A0 l0.length c0, .slice A1 l1.length c1] 60)
    rw [World.size_alloc] at this
    rwa [hW3]
  have hb2 : Boxed W3 (w.heap.size + 2) 3 (.int .i64 0) := by
    have := ((Boxed.new ((w.alloc (.cells #[.slice A0 l0.length c0, .slice A1 l1.length c1] 27)).alloc (.cells #[.slice A2 l.length c2] 29)) 3 (.int .i64 0)).alloc (.cells #[.bool false] 4)).alloc (.cells #[.slice A0 l0.length c0, .slice A1 l1.length c1] 60)
    rw [World.size_alloc, World.size_alloc] at this
    rwa [hW3]
  have hb3 : Boxed W3 (w.heap.size + 3) 4 (.bool false) := by
    have := (Boxed.new (((w.alloc (.cells #[.slice A0 l0.length c0, .slice A1 l1.length c1] 27)).alloc (.cells #[.slice A2 l.length c2] 29)).alloc (.cells #[.int .i64 0] 3)) 4 (.bool false)).alloc (.cells #[.slice A0 l0.length c0, .slice A1 l1.length c1] 60)
    rw [World.size_alloc, World.size_alloc, World.size_alloc] at this
    rwa [hW3]
  have hcB : ∀ j, W3.cell? ⟨w.heap.size + 1 + 1 + 1 + 1, j, none⟩ = (#[.slice A0 l0.length c0, .slice A1 l1.length c1] : Array Value)[j]? := by
    intro j
    have := new_cell ((((w.alloc (.cells #[.slice A0 l0.length c0, .slice A1 l1.length c1] 27)).alloc (.cells #[.slice A2 l.length c2] 29)).alloc (.cells #[.int .i64 0] 3)).alloc (.cells #[.bool false] 4)) #[.slice A0 l0.length c0, .slice A1 l1.length c1] 60 j
    rw [World.size_alloc, World.size_alloc, World.size_alloc, World.size_alloc] at this
    rw [hW3]
    exact this
  have hbs : ∀ i, i ∈ [w.heap.size + 1 + 1 + 1 + 1] → i < W3.heap.size := by
    intro i hi
    simp at hi
    omega
  have hseq := asked1_stopsF 2 (by decide) (w.heap.size + 1 + 1 + 1 + 1) c0 c1 w.heap.size [w.heap.size + 1 + 1 + 1 + 1] A0 A1 l0 l1 val w W3 hr0 hv hr1 rfl hB (hcB 0) (hcB 1) (by simp) hbs
  clear hW3 hcB
  refine wpIn_rangeFunc_ownG rfl (by decide) (gf := 41) (lb := #[.pointer (some ⟨w.heap.size + 1 + 1 + 1 + 1, 0, none⟩)]) rfl trivial (enters_of Try.func41 (by kernel_rfl) rfl) hseq (fun h k => KeepB.trans h k) (KeepB.putObj (by omega) hbs) (Below.refl _ _) (fun _ => rfl)
    (fun pre W => ((∀ i ∈ pre.map (fun x => x.1), rd_L3 l0 ((i : Nat) : Int) ≠ l) ∧ Boxed W (w.heap.size + 1) 29 (.slice A2 l.length c2) ∧ Boxed W (w.heap.size + 2) 3 (.int .i64 0) ∧ Boxed W (w.heap.size + 3) 4 (.bool false) ∧ w.heap.size + 5 ≤ W.heap.size) ∧ Below w.heap.size w W)
    (fun c pre W => (c = .ret ∧ (∃ (q : List Nat) (z : Nat), pre.map (fun x => x.1) = q ++ [z] ∧ (∀ i ∈ q, rd_L3 l0 ((i : Nat) : Int) ≠ l) ∧ rd_L3 l0 (z : Int) = l ∧ Boxed W (w.heap.size + 2) 3 (.int .i64 z)) ∧ Boxed W (w.heap.size + 3) 4 (.bool true)) ∧ Below w.heap.size w W)
    (OwnFrom.and (Own.from (fun s X Y row hs hg hr => ⟨hs.1, boxed_own (β := Unit) _ _ (fun _ => _) () X Y row hs.2.1 hg hr, boxed_own (β := Unit) _ _ (fun _ => _) () X Y row hs.2.2.1 hg hr, boxed_own (β := Unit) _ _ (fun _ => _) () X Y row hs.2.2.2.1 hg hr, Nat.le_trans hs.2.2.2.2 hg.size⟩) _) (ownFrom_below (Nat.le_refl _) (by omega)))
    (fun c => OwnFrom.and (Own.from (fun s X Y row hs hg hr => ⟨hs.1, (let ⟨q, z, hz, h1, h2, hb⟩ := hs.2.1; ⟨q, z, hz, h1, h2, boxed_own (β := Unit) _ _ (fun _ => _) () X Y row hb hg hr⟩), boxed_own (β := Unit) _ _ (fun _ => _) () X Y row hs.2.2 hg hr⟩) _) (ownFrom_below (Nat.le_refl _) (by omega)))
    ⟨⟨by simp, hb1, hb2, hb3, by omega⟩, hB⟩
    (fun x => { tmps := #[.agg #[.slice A0 l0.length c0, .slice A1 l1.length c1], .slice A2 l.length c2, .pointer (some ⟨w.heap.size, 0, none⟩), .pointer (some ⟨w.heap.size + 1, 0, none⟩), .pointer (some ⟨w.heap.size + 1 + 1, 0, none⟩), .pointer (some ⟨w.heap.size + 1 + 1 + 1, 0, none⟩), .int .i64 (x.1 : Int), val x.1, .agg #[.slice A0 l0.length c0, .slice A1 l1.length c1], .agg #[.slice A0 l0.length c0, .slice A1 l1.length c1], .func (.func 41) #[] #[.pointer (some ⟨w.heap.size + 1 + 1 + 1 + 1, 0, none⟩)], .int .i64 (x.1 : Int), val x.1, undef, undef, undef, undef], defers := [] }) ?assign ?body ?done ?stop
  case assign =>
    intro l x W K hK
    gi_wp2
    exact hK
  case body =>
    rintro lp pre x W ⟨⟨hne, hv1, hv2, hv3, hsW⟩, hBW⟩ hlen
    obtain ⟨ad, Ax, cx, _, hval, _, hlx, hrx⟩ := hv x.1 x.2
    have hcall := fun n => CallsIn.inRound lp ((callsIn_wide (n := n)).2 (same_any Ax cx (rd_L3 l0 (x.1 : Int)) A2 c2 l W (Kd.C_below hrx hBW) hlx (Kd.C_below hr2 hBW) hc2))
    rw [hval]
    generalize hd : decide (rd_L3 l0 (x.1 : Int) = l) = b at hcall
    have HD := Lib.hid hd
    clear hd hval
    have hc1' := hv1.cell
    have hc2' := hv2.cell
    have hf2' := hv2.frozen
    have hc3' := hv3.cell
    have hf3' := hv3.frozen
    cases b with
    | false =>
      gi_wp2_with (refine ⟨trivial, ?_⟩; gi_at_call 32; refine (hcall _).mono ?_; rintro e w5 ⟨rfl, hb⟩)
      have hg := grown_of_below hb none
      refine ⟨KeepsFrom.of_grownBy hg (fun j e => by cases e), KeepB.of_below hb (by omega) (fun i hi => by simp at hi; omega), ⟨?_, hv1.kept hg (by simp), hv2.kept hg (by simp), hv3.kept hg (by simp), Nat.le_trans hsW hb.size⟩, hBW.trans (hb.mono (by omega))⟩
      intro i hi
      rw [List.map_append] at hi
      rcases List.mem_append.1 hi with hi | hi
      · exact hne i hi
      · simp at hi
        subst hi
        exact of_decide_eq_false HD.out
    | true =>
      gi_wp2_with (refine ⟨trivial, ?_⟩; gi_at_call 32; refine (hcall _).mono ?_; rintro e w5 ⟨rfl, hb⟩; have hg := grown_of_below hb none; have hw2 := hv2.kept hg (by simp); have hw3 := hv3.kept hg (by simp); have hd2 := hw2.cell; have he2 := hw2.frozen; have hd3 := hw3.cell; have he3 := hw3.frozen)
      refine ⟨(KeepsFrom.of_grownBy hg (fun j e => by cases e)).trans (((KeepsOthers.setCell _ _ _).trans (KeepsOthers.setCell _ _ _)).from _), ⟨rfl, ⟨_, x.1, by rw [List.map_append]; rfl, hne, Qc HD.out, ?_⟩, ?_⟩, ((hBW.trans (hb.mono (by omega))).setCell (p := ⟨w.heap.size + 2, 0, none⟩) (by simp) _).setCell (p := ⟨w.heap.size + 3, 0, none⟩) (by simp) _⟩
      · exact (hw2.set _).other (by omega) _
      · exact (hw3.other (by omega) _).set _
  case done =>
    rintro D ys W hD hS ⟨⟨hne, hv1, hv2, hv3, hsW⟩, hBW⟩ hK
    have hS' : ys.map (fun x => x.1) = liveTo l1 (both l0 l1) := hS
    rw [hS'] at hne
    have hfin := findIn_none l0 l _ hne
    have hc2' := hv2.cell
    have hf2' := hv2.frozen
    have hc3' := hv3.cell
    have hf3' := hv3.frozen
    gi_wp2
    have hw2 : Boxed ((W.setCell ⟨w.heap.size + 2, 0, none⟩ (.int .i64 0)).setCell ⟨w.heap.size + 3, 0, none⟩ (.bool false)) (w.heap.size + 2) 3 (.int .i64 0) := (hv2.set _).other (by omega) _
    have hw3 : Boxed ((W.setCell ⟨w.heap.size + 2, 0, none⟩ (.int .i64 0)).setCell ⟨w.heap.size + 3, 0, none⟩ (.bool false)) (w.heap.size + 3) 4 (.bool false) := (hv3.other (by omega) _).set _
    have hK' := ((KeepsOthers.setCell W ⟨w.heap.size + 2, 0, none⟩ (.int .i64 0)).trans (KeepsOthers.setCell _ ⟨w.heap.size + 3, 0, none⟩ (.bool false))).same D _ hK rfl
    have hB' := (hBW.setCell (p := ⟨w.heap.size + 2, 0, none⟩) (by simp) (.int .i64 0)).setCell (p := ⟨w.heap.size + 3, 0, none⟩) (by simp) (.bool false)
    refine ⟨by simp, .inl ⟨_, _, rfl, run_takeDeferred hK', ?_⟩⟩
    have hc5 := cell_kept hw2.cell (grownBy_putObj' _ D (.deferred none)) (fun r e => by cases e; exact ⟨_, hK', rfl⟩)
    have hc6 := cell_kept hw3.cell (grownBy_putObj' _ D (.deferred none)) (fun r e => by cases e; exact ⟨_, hK', rfl⟩)
    refine ⟨.tuple #[.int .i64 0, .bool false], ?_, by rw [hfin], hB'.trans (belowK_b (w := w) (Nat.le_refl _) _ D _ _ (by omega) hK' rfl rfl)⟩
    simp [results, Try.f13, go_sem, hc5, hc6]
  case stop =>
    rintro D c pre W hD hpre ⟨⟨rfl, ⟨q, z, hqz, hne, hz, hv2⟩, hv3⟩, hBW⟩ hK
    gi_wp2
    refine ⟨by simp, .inl ⟨_, _, rfl, run_takeDeferred hK, ?_⟩⟩
    have hc5 := cell_kept hv2.cell (grownBy_putObj' _ D (.deferred none)) (fun r e => by cases e; exact ⟨_, hK, rfl⟩)
    have hc6 := cell_kept hv3.cell (grownBy_putObj' _ D (.deferred none)) (fun r e => by cases e; exact ⟨_, hK, rfl⟩)
    have hpre' : pre.map (fun x => x.1) <+: liveTo l1 (both l0 l1) := hpre
    obtain ⟨t, ht⟩ := hpre'
    have hfin : findIn l0 l (liveTo l1 (both l0 l1)) = ((z : Int), true) := by
      rw [← ht, hqz]
      exact findIn_some l0 l q z t hne hz
    refine ⟨.tuple #[.int .i64 z, .bool true], ?_, by rw [hfin], hBW.trans (belowK_b (w := w) (Nat.le_refl _) W D _ _ (by omega) hK rfl rfl)⟩
    simp [results, Try.f13, go_sem, hc5, hc6]
def intern_Find.f (l0_0 : List (List S57)) (l0_1 : List Int) (l1 : List S57) : Option (Int × Bool) := some (findIn l0_0 l1 (liveTo l0_1 (both l0_0 l0_1)))
theorem intern_Find.calls (A0_0 : Option Addr) (c0_0 : Nat) (l0_0 : List (List (S57))) (A0_1 : Option Addr) (c0_1 : Nat) (l0_1 : List Int) (A1 : Option Addr) (c1 : Nat) (l1 : List (S57)) (r1 : Int) (r2 : Bool) (w : World) (hr0_0 : Kd.C (Kd.slice 57 k57) w A0_0 l0_0.length l0_0) (hc0_0 : l0_0.length ≤ c0_0) (hr0_1 : Kd.C (Kd.int .i64) w A0_1 l0_1.length l0_1) (hc0_1 : l0_1.length ≤ c0_1) (hr1 : Kd.C k57 w A1 l1.length l1) (hc1 : l1.length ≤ c1) (h : intern_Find.f l0_0 l0_1 l1 = some (r1, r2)) :
    Calls Try.prog 13 #[.agg #[.slice A0_0 l0_0.length c0_0, .slice A0_1 l0_1.length c0_1], .slice A1 l1.length c1] w fun e w' => e = .returned (.tuple #[.int .i64 r1, .bool r2]) ∧ Below w.heap.size w w' := by
  have h' := Option.some.inj h
  have := Find_any A0_0 A0_1 A1 c0_0 c0_1 c1 l0_0 l0_1 l1 w hr0_0 hr0_1 hr1 hc1
  rw [h'] at this
  exact this
end Go.Proofs.Ytfoagjdcgipcaaa.X
