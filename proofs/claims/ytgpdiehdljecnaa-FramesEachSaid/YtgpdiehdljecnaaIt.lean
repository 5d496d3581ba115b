/- Contracts of the frames' functions that hand out places by a function value: places, first, count, Find, Free, Held, Drop, Take and the library's Clone, each at every slice of frames that is read; they state what the Go function returns and that nothing that lay before the call has changed. -/
import Derived.Test.YtgpdiehdljecnaaXx0
import Derived.RangeFuncNested
import Derived.RangeFuncBound
import Derived.RangeFuncCalls
import Derived.RangeFuncLeaves
import Derived.Shelf.Abstract
import Derived.Shelf.AbstractIn
import Derived.Shelf.RegionOpen
import Derived.OwnWalkIn
import Derived.TacticsInMore
import Derived.LoopNIn
import Derived.LoopIn
import Derived.Lib.Hide
import Derived.Laws.EntriesVeiled
import Derived.WalkSpells
import Derived.Sort.QuietIn
import Derived.Lib.SliceRun
namespace Go.Proofs.Ytgpdiehdljecnaa.X
open Go.RowKit Go.Shelf Go.Proofs.YtgpdiehdljecnaaW.PrintWords Go.Proofs.YtgpdiehdljecnaaW.PrintLast Go.Proofs.YtgpdiehdljecnaaW.PrintMore
attribute [local go_sem] Oper.semAt_some
set_option linter.unusedVariables false
set_option linter.unusedSimpArgs false

theorem cell_new_l (W : World) (v : Value) (t : TypeId) : (W.alloc (.cells #[v] t)).cell? ⟨W.heap.size, 0, none⟩ = some v ∧ (W.alloc (.cells #[v] t)).frozen? ⟨W.heap.size, 0, none⟩ = false := ⟨(Boxed.new W t v).cell, (Boxed.new W t v).frozen⟩
theorem cell_alloc_l {W : World} {a : Addr} {v : Value} (o : Obj) (h : W.cell? a = some v) : (W.alloc o).cell? a = some v := cell_kept h (World.grownBy_alloc W o none) (fun r e => by cases e)
theorem frozen_alloc_l {W : World} {a : Addr} {v : Value} (o : Obj) (h : W.cell? a = some v) (hf : W.frozen? a = false) : (W.alloc o).frozen? a = false := (frozen_kept h (World.grownBy_alloc W o none) (fun r e => by cases e)).trans hf
theorem new_cell (W : World) (cs : Array Value) (t : TypeId) (j : Nat) : (W.alloc (.cells cs t)).cell? ⟨W.heap.size, j, none⟩ = cs[j]? := by
  have h : (W.alloc (.cells cs t)).heap[W.heap.size]? = some (.cells cs t (0, 0)) := World.alloc_heap_new W _
  unfold World.cell?
  rw [h]
  simp
theorem boxed_at (W : World) (k : Nat) (hk : W.heap.size = k) (t : TypeId) (v : Value) : Boxed (W.alloc (.cells #[v] t)) k t v := by rw [← hk]; exact Boxed.new W t v
theorem _root_.Go.Boxed.far {W : World} {B : Nat} {t : TypeId} {v : Value} (h : Boxed W B t v) {p : Addr} (hne : B ≠ p.block) (u : Value) : Boxed (W.setCell p u) B t v := (Below.heap_setCell W p u B hne).trans h
/-- What a round keeps: all that lay below n₀, and the boxes in bs. -/
def KeepB (n₀ : Nat) (bs : List Nat) (A B : World) : Prop := Below n₀ A B ∧ ∀ i, i ∈ bs → B.heap[i]? = A.heap[i]?
theorem KeepB.refl (n₀ : Nat) (bs : List Nat) (A : World) : KeepB n₀ bs A A := ⟨Below.refl _ _, fun _ _ => rfl⟩
theorem KeepB.trans {n₀ : Nat} {bs : List Nat} {A B C : World} (h : KeepB n₀ bs A B) (k : KeepB n₀ bs B C) : KeepB n₀ bs A C :=
  ⟨h.1.trans k.1, fun i hi => (k.2 i hi).trans (h.2 i hi)⟩
theorem KeepB.putObj {n₀ : Nat} {bs : List Nat} {w : World} (hn : n₀ ≤ w.heap.size) (hb : ∀ i, i ∈ bs → i < w.heap.size) (W : World) (l : Nat) (o o' : Obj) (hl : w.heap.size ≤ l) (h : W.heap[l]? = some o) (h1 : o.isCells = false) (h2 : o.isWalk = false) : KeepB n₀ bs W (W.putObj l o') :=
  ⟨belowK_b hn W l o o' hl h h1 h2, fun i hi => World.putObj_heap_other (by have := hb i hi; omega)⟩
theorem KeepB.cell {n₀ : Nat} {bs : List Nat} {A B : World} (h : KeepB n₀ bs A B) {i : Nat} (hi : i ∈ bs) (j : Nat) : B.cell? ⟨i, j, none⟩ = A.cell? ⟨i, j, none⟩ :=
  World.cell?_of_block (w := A) (h.2 i hi)
theorem KeepB.of_below {n₀ : Nat} {bs : List Nat} {A B : World} (h : Below A.heap.size A B) (hn : n₀ ≤ A.heap.size) (hb : ∀ i, i ∈ bs → i < A.heap.size) : KeepB n₀ bs A B :=
  ⟨h.mono hn, fun i hi => h.block i (hb i hi)⟩

/-- A function value that tells whether something is true of a frame, in each later world that keeps n₀ and bs. -/
def PredK (g : Nat) (lb : Array Value) (p : S45 → Bool) (n₀ : Nat) (bs : List Nat) (w : World) : Prop :=
  ∀ (W : World) (x : S45), KeepB n₀ bs w W → w.heap.size ≤ W.heap.size → Calls Try.prog g (#[.agg #[.int .u64 x.f0, .int .i64 x.f1]] ++ lb) W fun e w' => e = .returned (.bool (p x)) ∧ Below W.heap.size W w'

/-- The places, from k on, of what p is true of. -/
def idxs (p : S45 → Bool) : List S45 → Nat → List Int
  | [], _ => []
  | x :: r, k => if p x then (k : Int) :: idxs p r (k + 1) else idxs p r (k + 1)
theorem idxs_length (p : S45 → Bool) (l : List S45) (k : Nat) : (idxs p l k).length ≤ l.length := by
  induction l generalizing k with
  | nil => simp [idxs]
  | cons x r ih => have := ih (k + 1); simp only [idxs]; split <;> simp <;> omega
/-- What has come when k rounds are over. -/
def come (p : S45 → Bool) (l : List S45) (k : Nat) : List Int := idxs p (l.take k) 0
theorem idxs_append (p : S45 → Bool) (a b : List S45) (k : Nat) : idxs p (a ++ b) k = idxs p a k ++ idxs p b (k + a.length) := by
  induction a generalizing k with
  | nil => simp [idxs]
  | cons x r ih => simp only [List.cons_append, idxs, ih]; split <;> simp [Nat.add_comm, Nat.add_left_comm]
theorem come_succ (p : S45 → Bool) (l : List S45) (k : Nat) (hk : k < l.length) : come p l (k + 1) = if p (rd_T45 l k) then come p l k ++ [(k : Int)] else come p l k := by
  have e : l.take (k + 1) = l.take k ++ [l[k]] := by rw [List.take_succ_eq_append_getElem hk]
  have e2 : rd_T45 l (k : Int) = l[k] := by simp [rd_T45, List.getD_eq_getElem?_getD, hk]
  unfold come
  rw [e, idxs_append, e2]
  have e3 : (l.take k).length = k := by simp; omega
  rw [e3, Nat.zero_add]
  simp only [idxs]
  split <;> simp
theorem come_all (p : S45 → Bool) (l : List S45) : come p l l.length = idxs p l 0 := by simp [come]
theorem come_prefix (p : S45 → Bool) (l : List S45) (k : Nat) : come p l k <+: idxs p l 0 := by
  refine ⟨idxs p (l.drop k) (0 + (l.take k).length), ?_⟩
  unfold come
  rw [← idxs_append, List.take_append_drop]
theorem come_length (p : S45 → Bool) (l : List S45) (k : Nat) : (come p l k).length ≤ k := by
  have := idxs_length p (l.take k) 0
  unfold come
  simp at this
  omega

set_option maxRecDepth 100000 in
set_option maxHeartbeats 4000000 in
/-- places' closure, at a slice that is not nil. -/
theorem places1_in (n : Nat) (hn : 1 ≤ n) (l Bl Bis g c : Nat) (lb : Array Value) (eg : ∀ args w, (callFunc g args).run Try.prog w = .ok (.enter g args) w) (p : S45 → Bool) (n₀ : Nat) (bs : List Nat) (A : Option Addr) (xs : List S45) (w0 : World)
    (hr : Kd.C k45 w0 A xs.length xs) (hn0 : w0.heap.size = n₀)
    (J Jx : List Int → World → Prop) (W : World) (hW0 : Below n₀ w0 W)
    (hJ : ∀ pre A B, J pre A → Below A.heap.size A B → J pre B) (hp : PredK g lb p n₀ bs W)
    (hY : ∀ pre (x : Int) W1, J pre W1 → pre.length < xs.length → 0 ≤ x → x < xs.length → YieldAt Fence.wide (n - 1) Try.prog l #[.int .i64 x] W1 fun e W' =>
      (e = .returned (.bool true) ∧ J (pre ++ [x]) W' ∧ KeepB n₀ bs W1 W') ∨ (e = .returned (.bool false) ∧ Jx (pre ++ [x]) W'))
    (hBl : W.cell? ⟨Bl, 0, none⟩ = some (.slice A xs.length c)) (hBis : W.cell? ⟨Bis, 0, none⟩ = some (.func (.func g) #[] lb)) (hbs : Bis ∈ bs) (hbl : ∀ i, i ∈ bs → i < W.heap.size) (h0 : J [] W) :
    CallsIn Fence.wide n Try.prog 35 #[.func (.yield l) #[] #[], .pointer (some ⟨Bl, 0, none⟩), .pointer (some ⟨Bis, 0, none⟩)] W fun e W' => (∃ v, e = .returned v) ∧
      ((∃ ys, ys = idxs p xs 0 ∧ J ys W') ∨ (∃ pre, pre <+: idxs p xs 0 ∧ Jx pre W')) := by
  have hmax : xs.length ≤ 9223372036854775807 := hr.2.1
  refine callsIn_of_wp Try.func35 rfl trivial ?_ rfl
  simp only [Try.ntmps35, List.size_toArray, List.length_cons, List.length_nil, Nat.reduceAdd, Nat.reduceSub, Array.replicate_succ, Array.replicate_zero, List.push_toArray, List.append_toArray, List.nil_append, List.cons_append]
  gi_wp2
  gi_loopw [8] (fun i wr => ∃ k : Nat, k ≤ xs.length ∧ i = .int .i64 k ∧ J (come p xs k) wr ∧ KeepB n₀ bs W wr ∧ W.heap.size ≤ wr.heap.size) (fun i _ => xs.length - (intOf i).toNat)
  case atStart => exact ⟨0, Nat.zero_le _, rfl, h0, KeepB.refl _ _ _, Nat.le_refl _⟩
  case round =>
    obtain ⟨k, hk, rfl, hJs, hkb, hsz⟩ := hrel
    by_cases hlt : k < xs.length
    · have hrW : Kd.C k45 wr A xs.length xs := Kd.C_below hr (hn0 ▸ hW0.trans hkb.1)
      obtain ⟨ad, e1, hx0, hx1⟩ := at_T45 hrW (k : Int) (by omega) (by omega)
      cases e1
      simp only [Int.toNat_natCast] at hx0 hx1
      generalize hx : rd_T45 xs (k : Int) = x at hx0 hx1
      have HX := Lib.hid hx
      clear hx
      have hisc : wr.cell? ⟨Bis, 0, none⟩ = some (.func (.func g) #[] lb) := (hkb.cell hbs 0).trans hBis
      have hisc2 := cell_alloc_l (.cells #[.int .u64 x.f0, .int .i64 x.f1] 45) hisc
      have hkb2 : KeepB n₀ bs W (wr.alloc (.cells #[.int .u64 x.f0, .int .i64 x.f1] 45)) := hkb.trans (KeepB.of_below ((Below.refl _ wr).alloc (Nat.le_refl _) _) (by have := hW0.size; omega) (fun i hi => by have := hbl i hi; omega))
      have hcall := hp _ x hkb2 (by simp; omega)
      have hJ2 := hJ _ _ _ hJs ((Below.refl _ wr).alloc (Nat.le_refl _) (.cells #[.int .u64 x.f0, .int .i64 x.f1] 45))
      clear hisc
      have hsucc := come_succ p xs k hlt
      rw [HX.out] at hsucc
      have hlen : (come p xs k).length < xs.length := by have := come_length p xs k; omega
      have HS := Lib.hid hsucc
      clear hsucc
      generalize hpx : p x = b at hcall
      have HP := Lib.hid hpx
      clear hpx
      cases b with
      | false =>
        gi_wp2_with (refine ⟨trivial, ?_⟩; gi_at_fn g; refine (callsIn_wide.2 hcall).mono ?_; rintro e w2 ⟨rfl, hb2⟩)
        refine ⟨fun _ h => (by cases h), ?_⟩
        gi_wp2
        go_roundw
        case rel =>
          refine ⟨k + 1, by omega, by go_num, ?_, hkb2.trans (KeepB.of_below hb2 (by have := hW0.size; simp; omega) (fun i hi => by have := hbl i hi; simp; omega)), by have := hb2.size; simp at this; omega⟩
          rw [HS.out, if_neg (by rw [HP.out]; simp)]
          exact hJ _ _ _ hJ2 hb2
        case measure => simp [intOf]; omega
      | true =>
        gi_wp2_with (refine ⟨trivial, ?_⟩; gi_at_fn g; refine (callsIn_wide.2 hcall).mono ?_; rintro e w2 ⟨rfl, hb2⟩; obtain ⟨fn, tmps, assign, body, hy, hR⟩ := hY _ (k : Int) w2 (hJ _ _ _ hJ2 hb2) hlen (by omega) (by omega))
        refine hR.mono ?_
        have hkb3 := hkb2.trans (KeepB.of_below hb2 (by have := hW0.size; simp; omega) (fun i hi => by have := hbl i hi; simp; omega))
        have hs3 := hb2.size
        rw [World.size_alloc] at hs3
        rintro e W3 (⟨rfl, hJ3, hk3⟩ | ⟨rfl, hJx3⟩)
        · have hs4 := hk3.1.size
          gi_wp2
          go_roundw
          case rel =>
            refine ⟨k + 1, by omega, by go_num, ?_, hkb3.trans hk3, by omega⟩
            rw [HS.out, if_pos HP.out]
            exact hJ3
          case measure => simp [intOf]; omega
        · gi_wp2
          refine bodyPost_ret (results_none rfl _ _ _) rfl ?_
          refine ⟨⟨_, rfl⟩, .inr ⟨come p xs k ++ [(k : Int)], ?_, hJx3⟩⟩
          have := come_prefix p xs (k + 1)
          rwa [HS.out, if_pos HP.out] at this
    · obtain rfl : k = xs.length := by omega
      gi_wp2
      go_end0
      exact ⟨⟨_, rfl⟩, .inl ⟨_, come_all p xs, hJs⟩⟩

/-- places' closure as an iterator: the places that p is true of, in order. -/
theorem places1_stops (n : Nat) (hn : 1 ≤ n) (Bl Bis g c : Nat) (lb : Array Value) (eg : ∀ args w, (callFunc g args).run Try.prog w = .ok (.enter g args) w) (p : S45 → Bool) (n₀ : Nat) (bs : List Nat) (A : Option Addr) (xs : List S45) (w0 w : World)
    (hr : Kd.C k45 w0 A xs.length xs) (hn0 : w0.heap.size = n₀) (hw : Below n₀ w0 w) (hp : PredK g lb p n₀ bs w)
    (hBl : w.cell? ⟨Bl, 0, none⟩ = some (.slice A xs.length c)) (hBll : Bl < w.heap.size) (hBis : w.cell? ⟨Bis, 0, none⟩ = some (.func (.func g) #[] lb)) (hbs : Bis ∈ bs) (hbl : ∀ i, i ∈ bs → i < w.heap.size) :
    SeqStopsK Fence.wide n Try.prog 35 #[.pointer (some ⟨Bl, 0, none⟩), .pointer (some ⟨Bis, 0, none⟩)] (fun x : Int => #[.int .i64 x]) (KeepB n₀ bs) (fun ys => ys = idxs p xs 0) (fun pre => pre <+: idxs p xs 0) xs.length w := fun l J Jx W hW hJ hJx hY h0 => by
  have hk : KeepB n₀ bs w W := KeepB.of_below hW (by have := hw.size; omega) hbl
  refine places1_in n hn l Bl Bis g c lb eg p n₀ bs A xs w0 hr hn0 J Jx W (hw.trans hk.1) (fun pre A B hj hb => hJ pre A B none hj (grown_of_below hb none) (fun r e => by cases e)) (fun W' x hk' hs => hp W' x (hk.trans hk') (by have := hW.size; omega)) (fun pre x W1 hj hl _ _ => hY pre x W1 hj hl) ((hW.cell (p := ⟨Bl, 0, none⟩) hBll).trans hBl) ((hk.cell hbs 0).trans hBis) hbs (fun i hi => by have := hbl i hi; have := hW.size; omega) h0

set_option maxRecDepth 100000 in
set_option maxHeartbeats 4000000 in
/-- count: how many come. -/
theorem count_calls (gf : Nat) (lb : Array Value) (eg : ∀ args w, (callFunc gf args).run Try.prog w = .ok (.enter gf args) w) (n₀ : Nat) (bs : List Nat) (zs : List Int) (N : Nat) (w : World)
    (hseq : SeqStopsK Fence.wide 2 Try.prog gf lb (fun x : Int => #[.int .i64 x]) (KeepB n₀ bs) (fun ys => ys = zs) (fun pre => pre <+: zs) N w) (hn₀ : n₀ ≤ w.heap.size) (hbs : ∀ i, i ∈ bs → i < w.heap.size) (hN : N ≤ 9223372036854775807) :
    Calls Try.prog 30 #[.func (.func gf) #[] lb] w fun e W' => e = .returned (.int .i64 zs.length) ∧ Below w.heap.size w W' := by
  refine (callsIn_wide (n := 3)).1 ?_
  refine callsIn_of_wp_marks Try.func30 rfl trivial ?_ rfl
  simp only [Try.ntmps30, List.size_toArray, List.length_cons, List.length_nil, Nat.reduceAdd, Nat.reduceSub, Array.replicate_succ, Array.replicate_zero, List.push_toArray, List.append_toArray, List.nil_append, List.cons_append]
  gi_wp2
  have hB0 : Below w.heap.size w (w.alloc (.cells #[.int .i64 0] 3)) := (Below.refl _ w).alloc (Nat.le_refl _) _
  refine wpIn_rangeFunc_ownG rfl (by decide) (gf := gf) (lb := lb) rfl trivial eg hseq (fun h k => KeepB.trans h k) (KeepB.putObj (by simp; omega) (fun i hi => by have := hbs i hi; simp; omega)) hB0 (fun _ => rfl)
    (fun pre W => Boxed W w.heap.size 3 (.int .i64 pre.length) ∧ Below w.heap.size w W)
    (fun _ _ _ => False)
    (OwnFrom.and (Own.from (boxed_own _ _ _) _) (ownFrom_below (Nat.le_refl _) (by simp)))
    (fun _ _ _ _ _ hs _ _ => hs)
    ⟨Boxed.new w 3 _, hB0⟩
    (fun x => { tmps := #[.func (.func gf) #[] lb, undef, .int .i64 0, .pointer (some ⟨w.heap.size, 0, none⟩), .func (.func gf) #[] lb, .int .i64 x, undef, undef, undef], defers := [] }) ?assign ?body ?done ?stop
  case assign =>
    intro l x W K hK
    gi_wp2
    simpa using hK
  case body =>
    rintro l pre x W ⟨hv, hB⟩ hl
    have hc := hv.cell
    have hf := hv.frozen
    have hl2 : pre.length < 9223372036854775807 := by omega
    gi_wp2
    refine ⟨(KeepsOthers.setCell _ _ _).from _, ⟨(Below.refl _ _).setCell (p := ⟨w.heap.size, 0, none⟩) hn₀ _, fun i hi => Below.heap_setCell _ _ _ _ (by have := hbs i hi; simp; omega)⟩, ?_, hB.setCell (p := ⟨w.heap.size, 0, none⟩) (Nat.le_refl _) _⟩
    have := hv.set (.int .i64 ((pre ++ [x]).length : Nat))
    simpa using this
  case done =>
    rintro D ys W hD rfl ⟨hv, hB⟩ hK
    have hc := hv.cell
    gi_wp2
    refine ⟨by simp, .inl ⟨_, _, rfl, run_takeDeferred hK, ?_⟩⟩
    exact ⟨_, results_tmp rfl _ _ _, rfl, hB.trans (belowK_b (w := w) (Nat.le_refl _) W D _ _ (by simp at hD; omega) hK rfl rfl)⟩
  case stop =>
    rintro D c pre W _ _ h _
    exact h.elim

/-- The first of some numbers, and whether there is one. -/
def fst (zs : List Int) : Int × Bool := match zs with
  | [] => (0, false)
  | z :: _ => (z, true)

set_option maxRecDepth 100000 in
set_option maxHeartbeats 4000000 in
/-- first: the first that comes. -/
theorem first_calls (gf : Nat) (lb : Array Value) (eg : ∀ args w, (callFunc gf args).run Try.prog w = .ok (.enter gf args) w) (n₀ : Nat) (bs : List Nat) (zs : List Int) (N : Nat) (w : World)
    (hseq : SeqStopsK Fence.wide 2 Try.prog gf lb (fun x : Int => #[.int .i64 x]) (KeepB n₀ bs) (fun ys => ys = zs) (fun pre => pre <+: zs) N w) (hn₀ : n₀ ≤ w.heap.size) (hbs : ∀ i, i ∈ bs → i < w.heap.size) :
    Calls Try.prog 26 #[.func (.func gf) #[] lb] w fun e W' => e = .returned (.tuple #[.int .i64 (fst zs).1, .bool (fst zs).2]) ∧ Below w.heap.size w W' := by
  refine (callsIn_wide (n := 3)).1 ?_
  refine callsIn_of_wp_marks Try.func26 rfl trivial ?_ rfl
  simp only [Try.ntmps26, List.size_toArray, List.length_cons, List.length_nil, Nat.reduceAdd, Nat.reduceSub, Array.replicate_succ, Array.replicate_zero, List.push_toArray, List.append_toArray, List.nil_append, List.cons_append]
  gi_wp2
  have hB0 : Below w.heap.size w ((w.alloc (.cells #[.int .i64 0] 3)).alloc (.cells #[.bool false] 4)) := ((Below.refl _ w).alloc (Nat.le_refl _) _).alloc (by simp) _
  have hb0 : Boxed ((w.alloc (.cells #[.int .i64 0] 3)).alloc (.cells #[.bool false] 4)) w.heap.size 3 (.int .i64 0) := (Boxed.new w 3 _).alloc _
  have hb1 : Boxed ((w.alloc (.cells #[.int .i64 0] 3)).alloc (.cells #[.bool false] 4)) (w.heap.size + 1) 4 (.bool false) := by
    have := Boxed.new (w.alloc (.cells #[.int .i64 0] 3)) 4 (.bool false)
    rwa [World.size_alloc] at this
  refine wpIn_rangeFunc_ownG rfl (by decide) (gf := gf) (lb := lb) rfl trivial eg hseq (fun h k => KeepB.trans h k) (KeepB.putObj (by simp; omega) (fun i hi => by have := hbs i hi; simp; omega)) hB0 (fun _ => rfl)
    (fun pre W => (pre = [] ∧ Boxed W w.heap.size 3 (.int .i64 0) ∧ Boxed W (w.heap.size + 1) 4 (.bool false)) ∧ Below w.heap.size w W)
    (fun c pre W => (c = .ret ∧ (∃ z, pre = [z] ∧ Boxed W w.heap.size 3 (.int .i64 z)) ∧ Boxed W (w.heap.size + 1) 4 (.bool true)) ∧ Below w.heap.size w W)
    (OwnFrom.and (Own.from (fun s X Y row hs hg hr => ⟨hs.1, boxed_own (β := Unit) _ _ (fun _ => _) () X Y row hs.2.1 hg hr, boxed_own (β := Unit) _ _ (fun _ => _) () X Y row hs.2.2 hg hr⟩) _) (ownFrom_below (Nat.le_refl _) (by simp; omega)))
    (fun c => OwnFrom.and (Own.from (fun s X Y row hs hg hr => ⟨hs.1, (let ⟨z, hz, hb⟩ := hs.2.1; ⟨z, hz, boxed_own (β := Unit) _ _ (fun _ => _) () X Y row hb hg hr⟩), boxed_own (β := Unit) _ _ (fun _ => _) () X Y row hs.2.2 hg hr⟩) _) (ownFrom_below (Nat.le_refl _) (by simp; omega)))
    ⟨⟨rfl, hb0, hb1⟩, hB0⟩
    (fun x => { tmps := #[.func (.func gf) #[] lb, undef, .pointer (some ⟨w.heap.size, 0, none⟩), .pointer (some ⟨w.heap.size + 1, 0, none⟩), .int .i64 x, .func (.func gf) #[] lb, .int .i64 x, undef], defers := [] }) ?assign ?body ?done ?stop
  case assign =>
    intro l x W K hK
    gi_wp2
    simpa using hK
  case body =>
    rintro l pre x W ⟨⟨rfl, hv0, hv1⟩, hB⟩ hl
    have hc0 := hv0.cell
    have hf0 := hv0.frozen
    have hc1 := hv1.cell
    have hf1 := hv1.frozen
    gi_wp2
    refine ⟨((KeepsOthers.setCell _ _ _).trans (KeepsOthers.setCell _ _ _)).from _, ⟨rfl, ⟨x, rfl, ?_⟩, ?_⟩, (hB.setCell (p := ⟨w.heap.size, 0, none⟩) (Nat.le_refl _) _).setCell (p := ⟨w.heap.size + 1, 0, none⟩) (by simp) _⟩
    · exact (hv0.set _).other (by omega) _
    · exact (hv1.other (by omega) _).set _
  case done =>
    rintro D ys W hD rfl ⟨⟨rfl, hv0, hv1⟩, hB⟩ hK
    have hc0 := hv0.cell
    have hf0 := hv0.frozen
    have hc1 := hv1.cell
    have hf1 := hv1.frozen
    gi_wp2
    have hw0 : Boxed ((W.setCell ⟨w.heap.size, 0, none⟩ (.int .i64 0)).setCell ⟨w.heap.size + 1, 0, none⟩ (.bool false)) w.heap.size 3 (.int .i64 0) := (hv0.set _).other (by omega) _
    have hw1 : Boxed ((W.setCell ⟨w.heap.size, 0, none⟩ (.int .i64 0)).setCell ⟨w.heap.size + 1, 0, none⟩ (.bool false)) (w.heap.size + 1) 4 (.bool false) := (hv1.other (by omega) _).set _
    have hK' := ((KeepsOthers.setCell W ⟨w.heap.size, 0, none⟩ (.int .i64 0)).trans (KeepsOthers.setCell _ ⟨w.heap.size + 1, 0, none⟩ (.bool false))).same D _ hK rfl
    have hB' := (hB.setCell (p := ⟨w.heap.size, 0, none⟩) (Nat.le_refl _) (.int .i64 0)).setCell (p := ⟨w.heap.size + 1, 0, none⟩) (by simp) (.bool false)
    refine ⟨by simp, .inl ⟨_, _, rfl, run_takeDeferred hK', ?_⟩⟩
    have hc5 := cell_kept hw0.cell (grownBy_putObj' _ D (.deferred none)) (fun r e => by cases e; exact ⟨_, hK', rfl⟩)
    have hc6 := cell_kept hw1.cell (grownBy_putObj' _ D (.deferred none)) (fun r e => by cases e; exact ⟨_, hK', rfl⟩)
    refine ⟨.tuple #[.int .i64 0, .bool false], ?_, rfl, hB'.trans (belowK_b (w := w) (Nat.le_refl _) _ D _ _ (by simp at hD; omega) hK' rfl rfl)⟩
    simp [results, Try.f26, go_sem, hc5, hc6]
  case stop =>
    rintro D c pre W hD hpre ⟨⟨rfl, ⟨z, rfl, hv0⟩, hv1⟩, hB⟩ hK
    gi_wp2
    refine ⟨by simp, .inl ⟨_, _, rfl, run_takeDeferred hK, ?_⟩⟩
    have hc5 := cell_kept hv0.cell (grownBy_putObj' _ D (.deferred none)) (fun r e => by cases e; exact ⟨_, hK, rfl⟩)
    have hc6 := cell_kept hv1.cell (grownBy_putObj' _ D (.deferred none)) (fun r e => by cases e; exact ⟨_, hK, rfl⟩)
    obtain ⟨t, rfl⟩ := hpre
    refine ⟨.tuple #[.int .i64 z, .bool true], ?_, rfl, hB.trans (belowK_b (w := w) (Nat.le_refl _) W D _ _ (by simp at hD; omega) hK rfl rfl)⟩
    simp [results, Try.f26, go_sem, hc5, hc6]

/-- of: the owner is boxed. -/
theorem of_calls (o : Int) (w : World) : Calls Try.prog 31 #[.int .u64 o] w fun e w' => e = .returned (.func (.func 36) #[] #[.pointer (some ⟨w.heap.size, 0, none⟩)]) ∧ w' = w.alloc (.cells #[.int .u64 o] 32) := by
  go_enter Try.func31, Try.ntmps31
  go_wp2
  go_ret
  exact ⟨rfl, rfl⟩
/-- places: the slice and the function value are boxed. -/
theorem places_calls (A : Option Addr) (n c g : Nat) (lb : Array Value) (w : World) : Calls Try.prog 27 #[.slice A n c, .func (.func g) #[] lb] w fun e w' =>
    e = .returned (.func (.func 35) #[] #[.pointer (some ⟨w.heap.size, 0, none⟩), .pointer (some ⟨w.heap.size + 1, 0, none⟩)]) ∧ w' = (w.alloc (.cells #[.slice A n c] 24)).alloc (.cells #[.func (.func g) #[] lb] 58) := by
  go_enter Try.func27, Try.ntmps27
  go_wp2
  go_ret
  exact ⟨rfl, rfl⟩
theorem free_any (a b : Int) (w : World) : Calls Try.prog 28 #[.agg #[.int .u64 a, .int .i64 b]] w fun e w' => e = .returned (.bool (a == 0)) ∧ Below w.heap.size w w' := by
  have hu45 := Try.underlying45
  go_enter Try.func28, Try.ntmps28
  go_wp2
  go_ret
  exact ⟨rfl, (Below.refl _ w).alloc (Nat.le_refl _) _⟩
theorem free_pred (n₀ : Nat) (bs : List Nat) (w : World) : PredK 28 #[] (fun x => x.f0 == 0) n₀ bs w := fun W x _ _ => free_any x.f0 x.f1 W
/-- What is true of an owner's frames. -/
def its (o : Int) (x : S45) : Bool := o != 0 && x.f0 == o
theorem of1_any (o a b : Int) (B : Nat) (w : World) (hc : w.cell? ⟨B, 0, none⟩ = some (.int .u64 o)) : Calls Try.prog 36 #[.agg #[.int .u64 a, .int .i64 b], .pointer (some ⟨B, 0, none⟩)] w fun e w' => e = .returned (.bool (o != 0 && a == o)) ∧ Below w.heap.size w w' := by
  have hu45 := Try.underlying45
  have hc2 := cell_alloc_l (.cells #[.int .u64 a, .int .i64 b] 45) hc
  clear hc
  cases ho : (o != 0)
  · go_enter Try.func36, Try.ntmps36
    go_wp2
    go_ret
    exact ⟨rfl, (Below.refl _ w).alloc (Nat.le_refl _) _⟩
  · go_enter Try.func36, Try.ntmps36
    go_wp2
    go_ret
    exact ⟨by simp, (Below.refl _ w).alloc (Nat.le_refl _) _⟩
theorem of_pred (o : Int) (B n₀ : Nat) (bs : List Nat) (hB : B ∈ bs) (w : World) (hc : w.cell? ⟨B, 0, none⟩ = some (.int .u64 o)) : PredK 36 #[.pointer (some ⟨B, 0, none⟩)] (its o) n₀ bs w :=
  fun W x hk _ => of1_any o x.f0 x.f1 B W ((hk.cell hB 0).trans hc)

def its2 (o pg : Int) (x : S45) : Bool := its o x && x.f1 == pg
theorem find1_any (o pg a b : Int) (Bi Bp Bo : Nat) (w : World) (hci : w.cell? ⟨Bi, 0, none⟩ = some (.func (.func 36) #[] #[.pointer (some ⟨Bo, 0, none⟩)])) (hcp : w.cell? ⟨Bp, 0, none⟩ = some (.int .i64 pg)) (hco : w.cell? ⟨Bo, 0, none⟩ = some (.int .u64 o)) :
    Calls Try.prog 32 #[.agg #[.int .u64 a, .int .i64 b], .pointer (some ⟨Bi, 0, none⟩), .pointer (some ⟨Bp, 0, none⟩)] w fun e w' => e = .returned (.bool ((o != 0 && a == o) && b == pg)) ∧ Below w.heap.size w w' := by
  have hu45 := Try.underlying45
  have hb : Below w.heap.size w (w.alloc (.cells #[.int .u64 a, .int .i64 b] 45)) := (Below.refl _ w).alloc (Nat.le_refl _) _
  have hco2 := cell_alloc_l (.cells #[.int .u64 a, .int .i64 b] 45) hco
  have hci2 := cell_alloc_l (.cells #[.int .u64 a, .int .i64 b] 45) hci
  have hcp2 := cell_alloc_l (.cells #[.int .u64 a, .int .i64 b] 45) hcp
  have hcall := of1_any o a b Bo _ hco2
  generalize ho : (o != 0 && a == o) = p at hcall
  have HO := Lib.hid ho
  clear ho hco hci hcp hco2
  cases p with
  | false =>
    go_enter Try.func32, Try.ntmps32
    go_wp2_with (go_at_call 36; refine hcall.mono ?_; rintro e w2 ⟨rfl, hb2⟩)
    go_ret
    exact ⟨rfl, hb.trans (hb2.mono (by simp))⟩
  | true =>
    go_enter Try.func32, Try.ntmps32
    go_wp2_with (go_at_call 36; refine hcall.mono ?_; rintro e w2 ⟨rfl, hb2⟩; have hcp3 := (hb2.cell (p := ⟨Bp, 0, none⟩) (World.block_lt_of_cell? _ _ hcp2)).trans hcp2; have hx0 : w2.cell? ⟨w.heap.size, 0, none⟩ = some (.int .u64 a) := (hb2.cell (p := ⟨w.heap.size, 0, none⟩) (by simp)).trans (new_cell w _ 45 0); have hx1 : w2.cell? ⟨w.heap.size, 1, none⟩ = some (.int .i64 b) := (hb2.cell (p := ⟨w.heap.size, 1, none⟩) (by simp)).trans (new_cell w _ 45 1))
    go_ret
    exact ⟨by simp, hb.trans (hb2.mono (by simp))⟩
theorem find_pred (o pg : Int) (Bi Bp Bo n₀ : Nat) (bs : List Nat) (h1 : Bi ∈ bs) (h2 : Bp ∈ bs) (h3 : Bo ∈ bs) (w : World) (hci : w.cell? ⟨Bi, 0, none⟩ = some (.func (.func 36) #[] #[.pointer (some ⟨Bo, 0, none⟩)])) (hcp : w.cell? ⟨Bp, 0, none⟩ = some (.int .i64 pg)) (hco : w.cell? ⟨Bo, 0, none⟩ = some (.int .u64 o)) :
    PredK 32 #[.pointer (some ⟨Bi, 0, none⟩), .pointer (some ⟨Bp, 0, none⟩)] (its2 o pg) n₀ bs w :=
  fun W x hk _ => find1_any o pg x.f0 x.f1 Bi Bp Bo W ((hk.cell h1 0).trans hci) ((hk.cell h2 0).trans hcp) ((hk.cell h3 0).trans hco)

/-- The place of an owner's page. -/
def frames_Find.f (l0 : List S45) (a1 a2 : Int) : Option (Int × Bool) := some (fst (idxs (its2 a1 a2) l0 0))
theorem Find_any (A0 : Option Addr) (c0 : Nat) (l0 : List S45) (a1 a2 : Int) (w : World) (hr0 : Kd.C k45 w A0 l0.length l0) :
    Calls Try.prog 13 #[.slice A0 l0.length c0, .int .u64 a1, .int .i64 a2] w fun e w' => e = .returned (.tuple #[.int .i64 (fst (idxs (its2 a1 a2) l0 0)).1, .bool (fst (idxs (its2 a1 a2) l0 0)).2]) ∧ Below w.heap.size w w' := by
  have b0 := ((((boxed_at w (w.heap.size) rfl 3 (.int .i64 a2)).alloc (.cells #[.int .u64 a1] 32)).alloc (.cells #[.func (.func 36) #[] #[.pointer (some ⟨w.heap.size + 1, 0, none⟩)]] 58)).alloc (.cells #[.slice A0 l0.length c0] 24)).alloc (.cells #[.func (.func 32) #[] #[.pointer (some ⟨w.heap.size + 1 + 1, 0, none⟩), .pointer (some ⟨w.heap.size, 0, none⟩)]] 58)
  have b1 := (((boxed_at (w.alloc (.cells #[.int .i64 a2] 3)) (w.heap.size + 1) (by simp) 32 (.int .u64 a1)).alloc (.cells #[.func (.func 36) #[] #[.pointer (some ⟨w.heap.size + 1, 0, none⟩)]] 58)).alloc (.cells #[.slice A0 l0.length c0] 24)).alloc (.cells #[.func (.func 32) #[] #[.pointer (some ⟨w.heap.size + 1 + 1, 0, none⟩), .pointer (some ⟨w.heap.size, 0, none⟩)]] 58)
  have b2 := ((boxed_at ((w.alloc (.cells #[.int .i64 a2] 3)).alloc (.cells #[.int .u64 a1] 32)) (w.heap.size + 1 + 1) (by simp) 58 (.func (.func 36) #[] #[.pointer (some ⟨w.heap.size + 1, 0, none⟩)])).alloc (.cells #[.slice A0 l0.length c0] 24)).alloc (.cells #[.func (.func 32) #[] #[.pointer (some ⟨w.heap.size + 1 + 1, 0, none⟩), .pointer (some ⟨w.heap.size, 0, none⟩)]] 58)
  have b3 := (boxed_at (((w.alloc (.cells #[.int .i64 a2] 3)).alloc (.cells #[.int .u64 a1] 32)).alloc (.cells #[.func (.func 36) #[] #[.pointer (some ⟨w.heap.size + 1, 0, none⟩)]] 58)) (w.heap.size + 1 + 1 + 1) (by simp) 24 (.slice A0 l0.length c0)).alloc (.cells #[.func (.func 32) #[] #[.pointer (some ⟨w.heap.size + 1 + 1, 0, none⟩), .pointer (some ⟨w.heap.size, 0, none⟩)]] 58)
  have b4 := boxed_at ((((w.alloc (.cells #[.int .i64 a2] 3)).alloc (.cells #[.int .u64 a1] 32)).alloc (.cells #[.func (.func 36) #[] #[.pointer (some ⟨w.heap.size + 1, 0, none⟩)]] 58)).alloc (.cells #[.slice A0 l0.length c0] 24)) (w.heap.size + 1 + 1 + 1 + 1) (by simp) 58 (.func (.func 32) #[] #[.pointer (some ⟨w.heap.size + 1 + 1, 0, none⟩), .pointer (some ⟨w.heap.size, 0, none⟩)])
  have hB : Below w.heap.size w (((((w.alloc (.cells #[.int .i64 a2] 3)).alloc (.cells #[.int .u64 a1] 32)).alloc (.cells #[.func (.func 36) #[] #[.pointer (some ⟨w.heap.size + 1, 0, none⟩)]] 58)).alloc (.cells #[.slice A0 l0.length c0] 24)).alloc (.cells #[.func (.func 32) #[] #[.pointer (some ⟨w.heap.size + 1 + 1, 0, none⟩), .pointer (some ⟨w.heap.size, 0, none⟩)]] 58)) := (((((Below.refl _ w).alloc (Nat.le_refl _) _).alloc (by simp) _).alloc (by simp; omega) _).alloc (by simp; omega) _).alloc (by simp; omega) _
  have hbl : ∀ i, i ∈ [w.heap.size, w.heap.size + 1, w.heap.size + 1 + 1, w.heap.size + 1 + 1 + 1 + 1] → i < (((((w.alloc (.cells #[.int .i64 a2] 3)).alloc (.cells #[.int .u64 a1] 32)).alloc (.cells #[.func (.func 36) #[] #[.pointer (some ⟨w.heap.size + 1, 0, none⟩)]] 58)).alloc (.cells #[.slice A0 l0.length c0] 24)).alloc (.cells #[.func (.func 32) #[] #[.pointer (some ⟨w.heap.size + 1 + 1, 0, none⟩), .pointer (some ⟨w.heap.size, 0, none⟩)]] 58)).heap.size := by
    intro i hi
    simp at hi ⊢
    omega
  have hseq := places1_stops 2 (by decide) (w.heap.size + 1 + 1 + 1) (w.heap.size + 1 + 1 + 1 + 1) 32 c0 _ (enters_of Try.func32 (by kernel_rfl) rfl) (its2 a1 a2) w.heap.size [w.heap.size, w.heap.size + 1, w.heap.size + 1 + 1, w.heap.size + 1 + 1 + 1 + 1] A0 l0 w _ hr0 rfl hB
    (find_pred a1 a2 (w.heap.size + 1 + 1) w.heap.size (w.heap.size + 1) _ _ (by simp) (by simp) (by simp) _ b2.cell b0.cell b1.cell) b3.cell (by simp) b4.cell (by simp) hbl
  have hc := first_calls 35 _ (enters_of Try.func35 (by kernel_rfl) rfl) _ _ _ _ _ hseq (by simp; omega) hbl
  clear hseq b0 b1 b2 b3 b4 hbl
  have HB := Lib.hid hB
  clear hB
  go_enter Try.func13, Try.ntmps13
  go_wp2_with (first | (go_at_call 31; refine (of_calls a1 _).mono ?_; rintro e w1 ⟨rfl, rfl⟩) | (go_at_call 27; refine (places_calls _ _ _ _ _ _).mono ?_; rintro e w1 ⟨rfl, rfl⟩) | (go_at_call 26; refine hc.mono ?_; rintro e w1 ⟨rfl, hb⟩))
  go_ret2
  exact ⟨rfl, HB.out.trans (hb.mono (by simp; omega))⟩
theorem frames_Find.calls (A0 : Option Addr) (c0 : Nat) (l0 : List S45) (a1 : Int) (a2 : Int) (r1 : Int) (r2 : Bool) (w : World) (hr0 : Kd.C k45 w A0 l0.length l0) (hc0 : l0.length ≤ c0) (h : frames_Find.f l0 a1 a2 = some (r1, r2)) :
    Calls Try.prog 13 #[.slice A0 l0.length c0, .int .u64 a1, .int .i64 a2] w fun e w' => e = .returned (.tuple #[.int .i64 r1, .bool r2]) ∧ Below w.heap.size w w' := by
  have h' := Option.some.inj h
  have := Find_any A0 c0 l0 a1 a2 w hr0
  rw [h'] at this
  exact this

/-- An empty literal owns no elements. -/
theorem R_empty {α : Type} (d : Kd α) (e : Nat) (w : World) (base : Nat) (hb : base ≤ w.heap.size) : Kd.R d e (w.alloc (.cells #[] e)) base (fun _ => True) (.slice (some ⟨w.heap.size, 0, none⟩) 0 0) [] :=
  ⟨fun _ _ => trivial, [], by simpa using World.ownsRow_lit (base := base) (e := e) (size := d.sz) w #[] 0 hb (Nat.zero_le _) (by simp), Reps.none _ _⟩
/-- The library's Clone: the same frames in new memory. -/
def slices_Clone.f (l0 : List S45) : Option (List S45) := if l0.length < 8796093022208 then some l0 else none
theorem slices_Clone.calls (A0 : Option Addr) (c0 : Nat) (l0 : List S45) (r : List S45) (w : World) (hr0 : Kd.C k45 w A0 l0.length l0) (hc0 : l0.length ≤ c0) (h : slices_Clone.f l0 = some r) :
    Calls Try.prog 29 #[.slice A0 l0.length c0] w fun e w' => ∃ v0_ : Value, e = .returned (v0_) ∧ Kd.R k45 45 w' w.heap.size (fun _ => True) v0_ r ∧ Below w.heap.size w w' := by
  unfold slices_Clone.f at h
  by_cases hl : l0.length < 8796093022208
  · rw [if_pos hl] at h
    obtain rfl := Option.some.inj h
    cases A0 with
    | none =>
      have h0 : l0.length = 0 := by
        rcases Nat.eq_zero_or_pos l0.length with h0 | h0
        · exact h0
        · obtain ⟨ad, h, _⟩ := hr0.2.2 h0
          cases h
      obtain rfl : l0 = [] := List.eq_nil_of_length_eq_zero h0
      have hz := fun W => Lib.run_eql_slice_nil (P := Try.prog) W 24 45 none 0 c0 0 0 Try.underlying24
      go_enter Try.func29, Try.ntmps29
      go_wp2
      go_ret
      exact ⟨_, rfl, Kd.R_nil _ _ _ _ _, Below.refl _ _⟩
    | some ad =>
      have hz := fun W => Lib.run_eql_slice_nil (P := Try.prog) W 24 45 (some ad) l0.length c0 0 0 Try.underlying24
      have HR0 := Aside0.mk hr0
      have LM := Aside0.mk hl
      clear hr0 hl
      go_enter Try.func29, Try.ntmps29
      go_wp2_with ((with_reducible refine gate_builtin (b := .append) (xs := #[.tmp 5, .tmp 6]) rfl ?_); at_builtin; refine Kd.R_append_rows k45 (w0 := w) w.heap.size rfl (.tmp 5) (.tmp 6) 24 45 (.agg #[(.int .u64 0), (.int .i64 0)]) 16 rfl Try.underlying24 info45 rfl (by decide) (by omega) (.slice (some ⟨w.heap.size, 0, none⟩) 0 0) ([] : List S45) l0 _ _ _ (fun _ => True) (fun _ => False) rfl rfl (R_empty k45 45 w w.heap.size (Nat.le_refl _)) (Kd.C_alloc HR0.out _) (fun _ _ h => h) (fun _ h => h.elim) (fun _ _ => trivial) ((Below.refl _ w).alloc (Nat.le_refl _) _) (by simp) (by have := LM.out; simp; omega) ?_; intro v1 w1 ho hb _ _)
      go_ret
      exact ⟨_, rfl, ho, hb⟩
  · rw [if_neg hl] at h
    exact absurd h (by simp)

def frames_Free.f (l0 : List S45) : Option Int := some ((idxs (fun x => x.f0 == 0) l0 0).length : Int)
theorem Free_any (A0 : Option Addr) (c0 : Nat) (l0 : List S45) (w : World) (hr0 : Kd.C k45 w A0 l0.length l0) :
    Calls Try.prog 9 #[.slice A0 l0.length c0] w fun e w' => e = .returned (.int .i64 ((idxs (fun x => x.f0 == 0) l0 0).length : Int)) ∧ Below w.heap.size w w' := by
  have b0 := (boxed_at w (w.heap.size) rfl 24 (.slice A0 l0.length c0)).alloc (.cells #[.func (.func 28) #[] #[]] 58)
  have b1 := boxed_at (w.alloc (.cells #[.slice A0 l0.length c0] 24)) (w.heap.size + 1) (by simp) 58 (.func (.func 28) #[] #[])
  have hB : Below w.heap.size w ((w.alloc (.cells #[.slice A0 l0.length c0] 24)).alloc (.cells #[.func (.func 28) #[] #[]] 58)) := ((Below.refl _ w).alloc (Nat.le_refl _) _).alloc (by simp) _
  have hbl : ∀ i, i ∈ [w.heap.size + 1] → i < ((w.alloc (.cells #[.slice A0 l0.length c0] 24)).alloc (.cells #[.func (.func 28) #[] #[]] 58)).heap.size := by
    intro i hi
    simp at hi ⊢
    omega
  have hmax : l0.length ≤ 9223372036854775807 := hr0.2.1
  have hseq := places1_stops 2 (by decide) (w.heap.size) (w.heap.size + 1) 28 c0 _ (enters_of Try.func28 (by kernel_rfl) rfl) (fun x => x.f0 == 0) w.heap.size [w.heap.size + 1] A0 l0 w _ hr0 rfl hB (free_pred _ _ _) b0.cell (by simp <;> omega) b1.cell (by simp) hbl
  have hc := count_calls 35 _ (enters_of Try.func35 (by kernel_rfl) rfl) _ _ _ _ _ hseq (by simp; omega) hbl hmax
  clear hseq b0 b1 hbl
  have HB := Lib.hid hB
  clear hB
  go_enter Try.func9, Try.ntmps9
  go_wp2_with (first | (go_at_call 27; refine (places_calls _ _ _ _ _ _).mono ?_; rintro e w1 ⟨rfl, rfl⟩) | (go_at_call 30; refine hc.mono ?_; rintro e w1 ⟨rfl, hb⟩))
  go_ret
  exact ⟨rfl, HB.out.trans (hb.mono (by simp; omega))⟩
theorem frames_Free.calls (A0 : Option Addr) (c0 : Nat) (l0 : List S45) (r : Int) (w : World) (hr0 : Kd.C k45 w A0 l0.length l0) (hc0 : l0.length ≤ c0) (h : frames_Free.f l0 = some r) :
    Calls Try.prog 9 #[.slice A0 l0.length c0] w fun e w' => e = .returned (.int .i64 r) ∧ Below w.heap.size w w' := by
  rw [← Option.some.inj h]
  exact Free_any A0 c0 l0 w hr0

def frames_Held.f (l0 : List S45) (a1 : Int) : Option Int := some ((idxs (its a1) l0 0).length : Int)
theorem Held_any (A0 : Option Addr) (c0 : Nat) (l0 : List S45) (a1 : Int) (w : World) (hr0 : Kd.C k45 w A0 l0.length l0) :
    Calls Try.prog 12 #[.slice A0 l0.length c0, .int .u64 a1] w fun e w' => e = .returned (.int .i64 ((idxs (its a1) l0 0).length : Int)) ∧ Below w.heap.size w w' := by
  have b0 := ((boxed_at w (w.heap.size) rfl 32 (.int .u64 a1)).alloc (.cells #[.slice A0 l0.length c0] 24)).alloc (.cells #[.func (.func 36) #[] #[.pointer (some ⟨w.heap.size, 0, none⟩)]] 58)
  have b1 := (boxed_at (w.alloc (.cells #[.int .u64 a1] 32)) (w.heap.size + 1) (by simp) 24 (.slice A0 l0.length c0)).alloc (.cells #[.func (.func 36) #[] #[.pointer (some ⟨w.heap.size, 0, none⟩)]] 58)
  have b2 := boxed_at ((w.alloc (.cells #[.int .u64 a1] 32)).alloc (.cells #[.slice A0 l0.length c0] 24)) (w.heap.size + 1 + 1) (by simp) 58 (.func (.func 36) #[] #[.pointer (some ⟨w.heap.size, 0, none⟩)])
  have hB : Below w.heap.size w (((w.alloc (.cells #[.int .u64 a1] 32)).alloc (.cells #[.slice A0 l0.length c0] 24)).alloc (.cells #[.func (.func 36) #[] #[.pointer (some ⟨w.heap.size, 0, none⟩)]] 58)) := (((Below.refl _ w).alloc (Nat.le_refl _) _).alloc (by simp) _).alloc (by simp; omega) _
  have hbl : ∀ i, i ∈ [w.heap.size, w.heap.size + 1 + 1] → i < (((w.alloc (.cells #[.int .u64 a1] 32)).alloc (.cells #[.slice A0 l0.length c0] 24)).alloc (.cells #[.func (.func 36) #[] #[.pointer (some ⟨w.heap.size, 0, none⟩)]] 58)).heap.size := by
    intro i hi
    simp at hi ⊢
    omega
  have hmax : l0.length ≤ 9223372036854775807 := hr0.2.1
  have hseq := places1_stops 2 (by decide) (w.heap.size + 1) (w.heap.size + 1 + 1) 36 c0 _ (enters_of Try.func36 (by kernel_rfl) rfl) (its a1) w.heap.size [w.heap.size, w.heap.size + 1 + 1] A0 l0 w _ hr0 rfl hB (of_pred a1 (w.heap.size) _ _ (by simp) _ b0.cell) b1.cell (by simp <;> omega) b2.cell (by simp) hbl
  have hc := count_calls 35 _ (enters_of Try.func35 (by kernel_rfl) rfl) _ _ _ _ _ hseq (by simp; omega) hbl hmax
  clear hseq b0 b1 b2 hbl
  have HB := Lib.hid hB
  clear hB
  go_enter Try.func12, Try.ntmps12
  go_wp2_with (first | (go_at_call 31; refine (of_calls a1 _).mono ?_; rintro e w1 ⟨rfl, rfl⟩) | (go_at_call 27; refine (places_calls _ _ _ _ _ _).mono ?_; rintro e w1 ⟨rfl, rfl⟩) | (go_at_call 30; refine hc.mono ?_; rintro e w1 ⟨rfl, hb⟩))
  go_ret
  exact ⟨rfl, HB.out.trans (hb.mono (by simp; omega))⟩
theorem frames_Held.calls (A0 : Option Addr) (c0 : Nat) (l0 : List S45) (a1 : Int) (r : Int) (w : World) (hr0 : Kd.C k45 w A0 l0.length l0) (hc0 : l0.length ≤ c0) (h : frames_Held.f l0 a1 = some r) :
    Calls Try.prog 12 #[.slice A0 l0.length c0, .int .u64 a1] w fun e w' => e = .returned (.int .i64 r) ∧ Below w.heap.size w w' := by
  rw [← Option.some.inj h]
  exact Held_any A0 c0 l0 a1 w hr0

theorem idxs_range (p : S45 → Bool) (l : List S45) (k : Nat) : ∀ z, z ∈ idxs p l k → ∃ j : Nat, z = (j : Int) ∧ k ≤ j ∧ j < k + l.length := by
  induction l generalizing k with
  | nil => intro z hz; simp [idxs] at hz
  | cons x r ih =>
    intro z hz
    simp only [idxs] at hz
    split at hz
    · rcases List.mem_cons.1 hz with rfl | hz
      · exact ⟨k, rfl, Nat.le_refl _, by simp⟩
      · obtain ⟨j, rfl, h1, h2⟩ := ih (k + 1) z hz
        exact ⟨j, rfl, by omega, by simp; omega⟩
    · obtain ⟨j, rfl, h1, h2⟩ := ih (k + 1) z hz
      exact ⟨j, rfl, by omega, by simp; omega⟩
/-- One frame of a row of one's own is written. -/
theorem R_put {w : World} {base : Nat} {ok : Nat → Prop} {v : Value} {l : List S45} (h : Kd.R k45 45 w base ok v l) (i : Nat) (hi : i < l.length) (x : S45) :
    ∃ g c, v = .slice (some ⟨g, 0, none⟩) l.length c ∧ base ≤ g ∧ (∃ a, w.cell? ⟨g, i * 2, none⟩ = some (.int .u64 a)) ∧ (∃ b, w.cell? ⟨g, i * 2 + 1, none⟩ = some (.int .i64 b)) ∧ w.frozen? ⟨g, i * 2, none⟩ = false ∧ w.frozen? ⟨g, i * 2 + 1, none⟩ = false ∧
      Kd.R k45 45 ((w.setCell ⟨g, i * 2, none⟩ (.int .u64 x.f0)).setCell ⟨g, i * 2 + 1, none⟩ (.int .i64 x.f1)) base ok v (l.set i x) := by
  obtain ⟨g, c, rfl, gb, gl, cl, HG⟩ := Kd.R_form h (by omega)
  obtain ⟨ce, hcl, hM, hcc, hfr⟩ := Kd.R_elem h z45 (i : Int) (by omega) (by omega)
  obtain rfl := k45_openM hM
  have HP := Kd.R_seg h (i : Int) (by omega) (by omega) (seg := [.int .u64 x.f0, .int .i64 x.f1]) (j := 0) hcl hcc (show 2 ≤ 2 from by decide) (x' := x) (k45_mkM _ _ _ x) (fun _ hk => hk)
  refine ⟨g, c, rfl, gb, ⟨_, hcc 0 _ rfl⟩, ⟨_, hcc 1 _ rfl⟩, hfr 0, hfr 1, ?_⟩
  exact HP.1

theorem paged_any (n : Int) (b : Bool) (hb : decide (0 ≤ n ∧ n ≤ 1048576) = b) (w : World) : Calls Try.prog 25 #[.int .i64 n] w fun e w' => e = .returned (.bool b) ∧ Below w.heap.size w w' := by
  subst hb
  by_cases h : 0 ≤ n
  · go_enter Try.func25, Try.ntmps25
    go_wp2
    go_ret
    exact ⟨by simp [h], Below.refl _ _⟩
  · have h' : decide (0 ≤ n) = false := decide_eq_false h
    go_enter Try.func25, Try.ntmps25
    go_wp2
    go_ret
    exact ⟨by simp [h], Below.refl _ _⟩
theorem first_free (A0 : Option Addr) (c0 : Nat) (l0 : List S45) (w : World) (hr0 : Kd.C k45 w A0 l0.length l0) :
    Calls Try.prog 26 #[.func (.func 35) #[] #[.pointer (some ⟨w.heap.size, 0, none⟩), .pointer (some ⟨w.heap.size + 1, 0, none⟩)]] ((w.alloc (.cells #[.slice A0 l0.length c0] 24)).alloc (.cells #[.func (.func 28) #[] #[]] 58)) fun e w' =>
      e = .returned (.tuple #[.int .i64 (fst (idxs (fun x => x.f0 == 0) l0 0)).1, .bool (fst (idxs (fun x => x.f0 == 0) l0 0)).2]) ∧ Below ((w.alloc (.cells #[.slice A0 l0.length c0] 24)).alloc (.cells #[.func (.func 28) #[] #[]] 58)).heap.size ((w.alloc (.cells #[.slice A0 l0.length c0] 24)).alloc (.cells #[.func (.func 28) #[] #[]] 58)) w' := by
  have b0 := (boxed_at w (w.heap.size) rfl 24 (.slice A0 l0.length c0)).alloc (.cells #[.func (.func 28) #[] #[]] 58)
  have b1 := boxed_at (w.alloc (.cells #[.slice A0 l0.length c0] 24)) (w.heap.size + 1) (by simp) 58 (.func (.func 28) #[] #[])
  have hB : Below w.heap.size w ((w.alloc (.cells #[.slice A0 l0.length c0] 24)).alloc (.cells #[.func (.func 28) #[] #[]] 58)) := ((Below.refl _ w).alloc (Nat.le_refl _) _).alloc (by simp) _
  have hbl : ∀ i, i ∈ [w.heap.size + 1] → i < ((w.alloc (.cells #[.slice A0 l0.length c0] 24)).alloc (.cells #[.func (.func 28) #[] #[]] 58)).heap.size := by
    intro i hi
    simp at hi ⊢
    omega
  have hseq := places1_stops 2 (by decide) (w.heap.size) (w.heap.size + 1) 28 c0 _ (enters_of Try.func28 (by kernel_rfl) rfl) (fun x => x.f0 == 0) w.heap.size [w.heap.size + 1] A0 l0 w _ hr0 rfl hB (free_pred _ _ _) b0.cell (by simp <;> omega) b1.cell (by simp) hbl
  exact first_calls 35 _ (enters_of Try.func35 (by kernel_rfl) rfl) _ _ _ _ _ hseq (by simp; omega) hbl

/-- The first free frame is given to an owner's page. -/
def frames_Take.f (l0 : List S45) (a1 a2 : Int) : Option (List S45 × Int × Int) :=
  if a1 = 0 ∨ ¬ (0 ≤ a2 ∧ a2 ≤ 1048576) then some (l0, 0, 4)
  else if (fst (idxs (its2 a1 a2) l0 0)).2 = true then some (l0, 0, 12)
  else if (fst (idxs (fun x => x.f0 == 0) l0 0)).2 = true then (if l0.length < 8796093022208 then some (l0.set (fst (idxs (fun x => x.f0 == 0) l0 0)).1.toNat ⟨a1, a2⟩, (fst (idxs (fun x => x.f0 == 0) l0 0)).1, 0) else none)
  else some (l0, 0, 6)
set_option maxHeartbeats 2000000 in
theorem frames_Take.calls (P0_ : Nat → Prop) (A0 : Option Addr) (c0 : Nat) (l0 : List (S45)) (a1 : Int) (a2 : Int) (r1 : List (S45)) (r2 : Int) (r3 : Int) (w : World) (hs0 : Kd.V k45 45 w w.heap.size (fun k_ => P0_ k_) (.slice A0 l0.length c0) l0) (h : frames_Take.f l0 a1 a2 = some (r1, r2, r3)) :
    Calls Try.prog 8 #[.slice A0 l0.length c0, .int .u64 a1, .int .i64 a2] w fun e w' => ∃ v0_ : Value, e = .returned (.tuple #[v0_, .int .i64 r2, .int .i64 r3]) ∧ Kd.V k45 45 w' w.heap.size (fun k_ => (P0_ k_ ∨ w.heap.size ≤ k_)) v0_ r1 ∧ Below w.heap.size w w' := by
  have HB := Aside0.mk (Below.refl w.heap.size w)
  have HR0 := Aside0.mk (Kd.V_reads' hs0).2.2
  have HC0 := Aside0.mk (Kd.V_reads' hs0).2.1
  unfold frames_Take.f at h
  by_cases h1 : a1 = 0
  · rw [if_pos (.inl h1)] at h
    simp only [Option.some.injEq, Prod.mk.injEq] at h
    obtain ⟨rfl, rfl, rfl⟩ := h
    have h0 : (a1 == 0) = true := beq_iff_eq.mpr h1
    clear h1
    go_enter Try.func8, Try.ntmps8
    go_wp2_with (first | (go_at_call 25; refine (hpg _).mono ?_; rintro e w2 ⟨rfl, hb⟩; have n0_ := Aside0.mk (below_step (by repeat (first | (with_reducible first | exact HB.out | apply below_alloc | apply pw_below_drewN | apply below_drew1) | exact HB.out)) hb); clear HB; have HB := n0_; clear n0_ hb))
    go_ret3
    exact ⟨_, rfl, Kd.V_mono (Kd.V_below hs0 (by repeat (first | (with_reducible first | exact HB.out | apply below_alloc | apply pw_below_drewN | apply below_drew1) | exact HB.out))) (fun k_ hk => .inl hk), (by repeat (first | (with_reducible first | exact HB.out | apply below_alloc | apply pw_below_drewN | apply below_drew1) | exact HB.out))⟩
  have h0 : (a1 == 0) = false := beq_eq_false_iff_ne.mpr h1
  by_cases h2 : 0 ≤ a2 ∧ a2 ≤ 1048576
  case neg =>
    rw [if_pos (.inr h2)] at h
    simp only [Option.some.injEq, Prod.mk.injEq] at h
    obtain ⟨rfl, rfl, rfl⟩ := h
    have hpg := fun W => paged_any a2 false (decide_eq_false h2) W
    clear h1 h2
    go_enter Try.func8, Try.ntmps8
    go_wp2_with (first | (go_at_call 25; refine (hpg _).mono ?_; rintro e w2 ⟨rfl, hb⟩; have n0_ := Aside0.mk (below_step (by repeat (first | (with_reducible first | exact HB.out | apply below_alloc | apply pw_below_drewN | apply below_drew1) | exact HB.out)) hb); clear HB; have HB := n0_; clear n0_ hb))
    go_ret3
    exact ⟨_, rfl, Kd.V_mono (Kd.V_below hs0 (by repeat (first | (with_reducible first | exact HB.out | apply below_alloc | apply pw_below_drewN | apply below_drew1) | exact HB.out))) (fun k_ hk => .inl hk), (by repeat (first | (with_reducible first | exact HB.out | apply below_alloc | apply pw_below_drewN | apply below_drew1) | exact HB.out))⟩
  rw [if_neg (by rintro (h | h); exact h1 h; exact h h2)] at h
  have hpg := fun W => paged_any a2 true (decide_eq_true h2) W
  have hfind0 := fun W (hb : Below w.heap.size w W) => Find_any A0 c0 l0 a1 a2 W (Kd.C_below HR0.out hb)
  have hfirst0 := fun W (hb : Below w.heap.size w W) => first_free A0 c0 l0 W (Kd.C_below HR0.out hb)
  clear h1 h2
  generalize fst (idxs (its2 a1 a2) l0 0) = q at h hfind0
  generalize hz : fst (idxs (fun x => x.f0 == 0) l0 0) = z at h hfirst0
  have HZ := Lib.hid hz
  clear hz
  obtain ⟨q1, q2⟩ := q
  obtain ⟨z1, z2⟩ := z
  cases q2 with
  | true =>
    rw [if_pos rfl] at h
    simp only [Option.some.injEq, Prod.mk.injEq] at h
    obtain ⟨rfl, rfl, rfl⟩ := h
    have hfind := hfind0
    clear hfirst0 hfind0
    go_enter Try.func8, Try.ntmps8
    go_wp2_with (first | (go_at_call 25; refine (hpg _).mono ?_; rintro e w2 ⟨rfl, hb⟩; have n0_ := Aside0.mk (below_step (by repeat (first | (with_reducible first | exact HB.out | apply below_alloc | apply pw_below_drewN | apply below_drew1) | exact HB.out)) hb); clear HB; have HB := n0_; clear n0_ hb) | (go_at_call 13; refine (hfind _ (by repeat (first | (with_reducible first | exact HB.out | apply below_alloc | apply pw_below_drewN | apply below_drew1) | exact HB.out))).mono ?_; rintro e w3 ⟨rfl, hb⟩; have n0_ := Aside0.mk (below_step (by repeat (first | (with_reducible first | exact HB.out | apply below_alloc | apply pw_below_drewN | apply below_drew1) | exact HB.out)) hb); clear HB; have HB := n0_; clear n0_ hb))
    go_ret3
    exact ⟨_, rfl, Kd.V_mono (Kd.V_below hs0 (by repeat (first | (with_reducible first | exact HB.out | apply below_alloc | apply pw_below_drewN | apply below_drew1) | exact HB.out))) (fun k_ hk => .inl hk), (by repeat (first | (with_reducible first | exact HB.out | apply below_alloc | apply pw_below_drewN | apply below_drew1) | exact HB.out))⟩
  | false =>
  rw [if_neg (by simp)] at h
  have hfind := hfind0
  have hfirst := hfirst0
  clear hfind0 hfirst0
  cases z2 with
  | false =>
    rw [if_neg (by simp)] at h
    simp only [Option.some.injEq, Prod.mk.injEq] at h
    obtain ⟨rfl, rfl, rfl⟩ := h
    go_enter Try.func8, Try.ntmps8
    go_wp2_with (first | (go_at_call 25; refine (hpg _).mono ?_; rintro e w2 ⟨rfl, hb⟩; have n0_ := Aside0.mk (below_step (by repeat (first | (with_reducible first | exact HB.out | apply below_alloc | apply pw_below_drewN | apply below_drew1) | exact HB.out)) hb); clear HB; have HB := n0_; clear n0_ hb) | (go_at_call 13; refine (hfind _ (by repeat (first | (with_reducible first | exact HB.out | apply below_alloc | apply pw_below_drewN | apply below_drew1) | exact HB.out))).mono ?_; rintro e w3 ⟨rfl, hb⟩; have n0_ := Aside0.mk (below_step (by repeat (first | (with_reducible first | exact HB.out | apply below_alloc | apply pw_below_drewN | apply below_drew1) | exact HB.out)) hb); clear HB; have HB := n0_; clear n0_ hb) | (go_at_call 27; refine (places_calls _ _ _ _ _ _).mono ?_; rintro e w4 ⟨rfl, rfl⟩) | (go_at_call 26; refine (hfirst _ HB.out).mono ?_; rintro e w5 ⟨rfl, hb⟩; have n0_ := Aside0.mk (below_step (below_alloc (below_alloc HB.out _) _) hb); clear HB; have HB := n0_; clear n0_ hb))
    go_ret3
    exact ⟨_, rfl, Kd.V_mono (Kd.V_below hs0 (by repeat (first | (with_reducible first | exact HB.out | apply below_alloc | apply pw_below_drewN | apply below_drew1) | exact HB.out))) (fun k_ hk => .inl hk), (by repeat (first | (with_reducible first | exact HB.out | apply below_alloc | apply pw_below_drewN | apply below_drew1) | exact HB.out))⟩
  | true =>
  rw [if_pos rfl] at h
  by_cases h3 : l0.length < 8796093022208
  case neg =>
    rw [if_neg h3] at h
    exact absurd h (by simp)
  rw [if_pos h3] at h
  simp only [Option.some.injEq, Prod.mk.injEq] at h
  obtain ⟨rfl, rfl, rfl⟩ := h
  have hmem : ∃ j : Nat, z1 = (j : Int) ∧ j < l0.length := by
    have hz := HZ.out
    cases hi : idxs (fun x => x.f0 == 0) l0 0 with
    | nil => rw [hi] at hz; simp [fst] at hz
    | cons z r =>
      rw [hi] at hz
      simp [fst] at hz
      obtain ⟨j, hj, _, hj2⟩ := idxs_range (fun x => x.f0 == 0) l0 0 z (by rw [hi]; simp)
      exact ⟨j, by rw [← hz]; exact hj, by omega⟩
  obtain ⟨j, rfl, hj⟩ := hmem
  rw [Int.toNat_natCast]
  have hclone := fun W (hb : Below w.heap.size w W) => slices_Clone.calls A0 c0 l0 l0 W (Kd.C_below HR0.out hb) HC0.out (by unfold slices_Clone.f; rw [if_pos h3])
  clear h3 HZ
  go_enter Try.func8, Try.ntmps8
  go_wp2_with (first | (go_at_call 25; refine (hpg _).mono ?_; rintro e w2 ⟨rfl, hb⟩; have n0_ := Aside0.mk (below_step (by repeat (first | (with_reducible first | exact HB.out | apply below_alloc | apply pw_below_drewN | apply below_drew1) | exact HB.out)) hb); clear HB; have HB := n0_; clear n0_ hb) | (go_at_call 13; refine (hfind _ (by repeat (first | (with_reducible first | exact HB.out | apply below_alloc | apply pw_below_drewN | apply below_drew1) | exact HB.out))).mono ?_; rintro e w3 ⟨rfl, hb⟩; have n0_ := Aside0.mk (below_step (by repeat (first | (with_reducible first | exact HB.out | apply below_alloc | apply pw_below_drewN | apply below_drew1) | exact HB.out)) hb); clear HB; have HB := n0_; clear n0_ hb) | (go_at_call 27; refine (places_calls _ _ _ _ _ _).mono ?_; rintro e w4 ⟨rfl, rfl⟩) | (go_at_call 26; refine (hfirst _ HB.out).mono ?_; rintro e w5 ⟨rfl, hb⟩; have n0_ := Aside0.mk (below_step (below_alloc (below_alloc HB.out _) _) hb); clear HB; have HB := n0_; clear n0_ hb) | (go_at_call 29; refine (hclone _ HB.out).mono ?_; rintro e w6 ⟨v1, rfl, ho, hb⟩; obtain ⟨g, c, rfl, hg, ⟨x0, hx0⟩, ⟨x1, hx1⟩, hf0, hf1, ho2⟩ := R_put ho j hj ⟨a1, a2⟩; have HO := Aside0.mk ho2; have HG := Aside0.mk hg; clear ho ho2 hg; have HS := Aside0.mk HB.out.size; have n0_ := Aside0.mk (below_step (by repeat (first | (with_reducible first | exact HB.out | apply below_alloc | apply pw_below_drewN | apply below_drew1) | exact HB.out)) hb); clear HB; have HB := n0_; clear n0_ hb))
  go_ret3
  refine ⟨_, rfl, Kd.V_mono (Kd.R_V (Kd.R_bound HO.out)) (fun k_ hk => .inr (by have := hk.2.1; have := HS.out; omega)), ?_⟩
  exact (HB.out.setCell (p := ⟨g, j * 2, none⟩) (Nat.le_trans HS.out HG.out) _).setCell (p := ⟨g, j * 2 + 1, none⟩) (Nat.le_trans HS.out HG.out) _

/-- places' closure as an iterator, each place told to lie in the slice. -/
theorem places1_stopsF (n : Nat) (hn : 1 ≤ n) (Bl Bis g c : Nat) (lb : Array Value) (eg : ∀ args w, (callFunc g args).run Try.prog w = .ok (.enter g args) w) (p : S45 → Bool) (n₀ : Nat) (bs : List Nat) (A : Option Addr) (xs : List S45) (w0 w : World)
    (hr : Kd.C k45 w0 A xs.length xs) (hn0 : w0.heap.size = n₀) (hw : Below n₀ w0 w) (hp : PredK g lb p n₀ bs w)
    (hBl : w.cell? ⟨Bl, 0, none⟩ = some (.slice A xs.length c)) (hBll : Bl < w.heap.size) (hBis : w.cell? ⟨Bis, 0, none⟩ = some (.func (.func g) #[] lb)) (hbs : Bis ∈ bs) (hbl : ∀ i, i ∈ bs → i < w.heap.size) :
    SeqStopsK Fence.wide n Try.prog 35 #[.pointer (some ⟨Bl, 0, none⟩), .pointer (some ⟨Bis, 0, none⟩)] (fun x : { j : Nat // j < xs.length } => #[.int .i64 (x.1 : Int)]) (KeepB n₀ bs) (fun ys => ys.map (fun x => (x.1 : Int)) = idxs p xs 0) (fun pre => pre.map (fun x => (x.1 : Int)) <+: idxs p xs 0) xs.length w := fun l J Jx W hW hJ hJx hY h0 => by
  have hk : KeepB n₀ bs w W := KeepB.of_below hW (by have := hw.size; omega) hbl
  refine (places1_in n hn l Bl Bis g c lb eg p n₀ bs A xs w0 hr hn0 (fun pre W => ∃ q : List { j : Nat // j < xs.length }, q.map (fun x => (x.1 : Int)) = pre ∧ J q W) (fun pre W => ∃ q : List { j : Nat // j < xs.length }, q.map (fun x => (x.1 : Int)) = pre ∧ Jx q W) W (hw.trans hk.1)
    (fun pre A B ⟨q, hq, hj⟩ hb => ⟨q, hq, hJ q A B none hj (grown_of_below hb none) (fun r e => by cases e)⟩) (fun W' x hk' hs => hp W' x (hk.trans hk') (by have := hW.size; omega)) ?_ ((hW.cell (p := ⟨Bl, 0, none⟩) hBll).trans hBl) ((hk.cell hbs 0).trans hBis) hbs (fun i hi => by have := hbl i hi; have := hW.size; omega) ⟨[], rfl, h0⟩).mono ?_
  · rintro pre x W1 ⟨q, hq, hj⟩ hl hx0 hx1
    have hlen : q.length < xs.length := by rw [← hq] at hl; simpa using hl
    obtain ⟨j, rfl⟩ := Int.eq_ofNat_of_zero_le hx0
    refine (hY q ⟨j, by omega⟩ W1 hj hlen).mono ?_
    rintro e W' (⟨he, hj', hk'⟩ | ⟨he, hj'⟩)
    · exact .inl ⟨he, ⟨_, by simp [hq], hj'⟩, hk'⟩
    · exact .inr ⟨he, ⟨_, by simp [hq], hj'⟩⟩
  · rintro e W' ⟨hv, ⟨ys, rfl, q, hq, hj⟩ | ⟨pre, hpre, q, hq, hj⟩⟩
    · exact ⟨hv, .inl ⟨q, hq, hj⟩⟩
    · exact ⟨hv, .inr ⟨q, (by rw [hq]; exact hpre : q.map (fun x => (x.1 : Int)) <+: idxs p xs 0), hj⟩⟩
/-- A row of one's own abides the turn of what is no cells. -/
theorem R_own {β : Type} (f : β → List S45) (v : Value) (base : Nat) : Own (fun s W => Kd.R k45 45 W base (fun _ => True) v (f s)) := fun s X Y row hs hg hr =>
  Kd.R_mono (Kd.R_move (Kd.R_bound hs) (fun k hk => hg.block k hk.2.2.1 (fun e => by
    obtain ⟨o, ho, hc⟩ := hr k e.symm
    obtain ⟨q, _, cells, h⟩ := hk.2.2.2
    rw [h] at ho
    cases ho
    cases hc))) (fun _ _ => trivial)
/-- All these places freed. -/
def dropAll (zs : List Int) (l : List S45) : List S45 := zs.foldl (fun l z => l.set z.toNat ⟨0, 0⟩) l
theorem dropAll_length (zs : List Int) (l : List S45) : (dropAll zs l).length = l.length := by
  unfold dropAll
  induction zs generalizing l with
  | nil => rfl
  | cons z r ih => rw [List.foldl_cons, ih]; simp
theorem dropAll_snoc (zs : List Int) (z : Int) (l : List S45) : dropAll (zs ++ [z]) l = (dropAll zs l).set z.toNat ⟨0, 0⟩ := by simp [dropAll]
def frames_Drop.f (l0 : List S45) (a1 : Int) : Option (List S45 × Int) := if l0.length < 8796093022208 then some (dropAll (idxs (its a1) l0 0) l0, ((idxs (its a1) l0 0).length : Int)) else none
set_option maxRecDepth 100000 in
set_option maxHeartbeats 4000000 in
theorem Drop_any (A0 : Option Addr) (c0 : Nat) (l0 : List S45) (a1 : Int) (w : World) (hr0 : Kd.C k45 w A0 l0.length l0) (hc0 : l0.length ≤ c0) (hl : l0.length < 8796093022208) :
    Calls Try.prog 11 #[.slice A0 l0.length c0, .int .u64 a1] w fun e w' => ∃ v0_ : Value, e = .returned (.tuple #[v0_, .int .i64 ((idxs (its a1) l0 0).length : Int)]) ∧ Kd.R k45 45 w' w.heap.size (fun _ => True) v0_ (dropAll (idxs (its a1) l0 0) l0) ∧ Below w.heap.size w w' := by
  have hclone := slices_Clone.calls A0 c0 l0 l0 w hr0 hc0 (by unfold slices_Clone.f; rw [if_pos hl])
  refine (callsIn_wide (n := 3)).1 ?_
  refine callsIn_of_wp_marks Try.func11 rfl trivial ?_ rfl
  simp only [Try.ntmps11, List.size_toArray, List.length_cons, List.length_nil, Nat.reduceAdd, Nat.reduceSub, Array.replicate_succ, Array.replicate_zero, List.push_toArray, List.append_toArray, List.nil_append, List.cons_append]
  gi_wp2_with (first | (refine ⟨trivial, ?_⟩; gi_at_call 29; refine (callsIn_wide.2 hclone).mono ?_; rintro e w1 ⟨v1, rfl, ho, hb⟩; obtain ⟨A1, c1, rfl⟩ := Kd.R_slice ho) | (refine ⟨trivial, ?_⟩; gi_at_call 31; refine (callsIn_wide.2 (of_calls a1 _)).mono ?_; rintro e w2 ⟨rfl, rfl⟩) | (refine ⟨trivial, ?_⟩; gi_at_call 27; refine (callsIn_wide.2 (places_calls _ _ _ _ _ _)).mono ?_; rintro e w2 ⟨rfl, rfl⟩))
  have hA : ∀ ad, A1 = some ad → w.heap.size ≤ ad.block ∧ ad.block < w1.heap.size := fun ad e => by
    have := (Kd.R_bound ho).1 ad.block (by rw [e]; rfl)
    exact ⟨this.2.1, this.2.2.1⟩
  have hw1 := hb.size
  have hmax : l0.length ≤ 9223372036854775807 := hr0.2.1
  have b0 := ((((boxed_at w1 (w1.heap.size) rfl 24 (.slice A1 l0.length c1)).alloc (.cells #[.int .i64 0] 3)).alloc (.cells #[.int .u64 a1] 32)).alloc (.cells #[.slice A0 l0.length c0] 24)).alloc (.cells #[.func (.func 36) #[] #[.pointer (some ⟨w1.heap.size + 1 + 1, 0, none⟩)]] 58)
  have b1 := (((boxed_at (w1.alloc (.cells #[.slice A1 l0.length c1] 24)) (w1.heap.size + 1) (by simp) 3 (.int .i64 0)).alloc (.cells #[.int .u64 a1] 32)).alloc (.cells #[.slice A0 l0.length c0] 24)).alloc (.cells #[.func (.func 36) #[] #[.pointer (some ⟨w1.heap.size + 1 + 1, 0, none⟩)]] 58)
  have b2 := ((boxed_at ((w1.alloc (.cells #[.slice A1 l0.length c1] 24)).alloc (.cells #[.int .i64 0] 3)) (w1.heap.size + 1 + 1) (by simp) 32 (.int .u64 a1)).alloc (.cells #[.slice A0 l0.length c0] 24)).alloc (.cells #[.func (.func 36) #[] #[.pointer (some ⟨w1.heap.size + 1 + 1, 0, none⟩)]] 58)
  have b3 := (boxed_at (((w1.alloc (.cells #[.slice A1 l0.length c1] 24)).alloc (.cells #[.int .i64 0] 3)).alloc (.cells #[.int .u64 a1] 32)) (w1.heap.size + 1 + 1 + 1) (by simp) 24 (.slice A0 l0.length c0)).alloc (.cells #[.func (.func 36) #[] #[.pointer (some ⟨w1.heap.size + 1 + 1, 0, none⟩)]] 58)
  have b4 := boxed_at ((((w1.alloc (.cells #[.slice A1 l0.length c1] 24)).alloc (.cells #[.int .i64 0] 3)).alloc (.cells #[.int .u64 a1] 32)).alloc (.cells #[.slice A0 l0.length c0] 24)) (w1.heap.size + 1 + 1 + 1 + 1) (by simp) 58 (.func (.func 36) #[] #[.pointer (some ⟨w1.heap.size + 1 + 1, 0, none⟩)])
  have hB1 : Below w1.heap.size w1 (((((w1.alloc (.cells #[.slice A1 l0.length c1] 24)).alloc (.cells #[.int .i64 0] 3)).alloc (.cells #[.int .u64 a1] 32)).alloc (.cells #[.slice A0 l0.length c0] 24)).alloc (.cells #[.func (.func 36) #[] #[.pointer (some ⟨w1.heap.size + 1 + 1, 0, none⟩)]] 58)) := (((((Below.refl _ w1).alloc (Nat.le_refl _) _).alloc (by simp) _).alloc (by simp; omega) _).alloc (by simp; omega) _).alloc (by simp; omega) _
  have hbl : ∀ i, i ∈ [w1.heap.size + 1 + 1, w1.heap.size + 1 + 1 + 1 + 1] → i < (((((w1.alloc (.cells #[.slice A1 l0.length c1] 24)).alloc (.cells #[.int .i64 0] 3)).alloc (.cells #[.int .u64 a1] 32)).alloc (.cells #[.slice A0 l0.length c0] 24)).alloc (.cells #[.func (.func 36) #[] #[.pointer (some ⟨w1.heap.size + 1 + 1, 0, none⟩)]] 58)).heap.size := by
    intro i hi
    simp at hi ⊢
    omega
  have hB : Below w.heap.size w (((((w1.alloc (.cells #[.slice A1 l0.length c1] 24)).alloc (.cells #[.int .i64 0] 3)).alloc (.cells #[.int .u64 a1] 32)).alloc (.cells #[.slice A0 l0.length c0] 24)).alloc (.cells #[.func (.func 36) #[] #[.pointer (some ⟨w1.heap.size + 1 + 1, 0, none⟩)]] 58)) := hb.trans (hB1.mono hw1)
  have hseq := places1_stopsF 2 (by decide) (w1.heap.size + 1 + 1 + 1) (w1.heap.size + 1 + 1 + 1 + 1) 36 c0 _ (enters_of Try.func36 (by kernel_rfl) rfl) (its a1) w.heap.size [w1.heap.size + 1 + 1, w1.heap.size + 1 + 1 + 1 + 1] A0 l0 w _ hr0 rfl hB (of_pred a1 (w1.heap.size + 1 + 1) _ _ (by simp) _ b2.cell) b3.cell (by simp <;> omega) b4.cell (by simp) hbl
  have ho5 := Kd.R_below ho hB1
  refine wpIn_rangeFunc_ownG rfl (by decide) (gf := 35) rfl trivial (enters_of Try.func35 (by kernel_rfl) rfl) hseq (fun h k => KeepB.trans h k) (KeepB.putObj (by simp; omega) hbl) (Below.refl _ _) (fun _ => rfl)
    (fun pre W => ((Boxed W (w1.heap.size) 24 (.slice A1 l0.length c1) ∧ Boxed W (w1.heap.size + 1) 3 (.int .i64 (pre.length : Int))) ∧ Kd.R k45 45 W w.heap.size (fun _ => True) (.slice A1 l0.length c1) (dropAll (pre.map (fun x => (x.1 : Int))) l0)) ∧ Below w.heap.size w W)
    (fun _ _ _ => False)
    (OwnFrom.and (OwnFrom.and (Own.from (fun s X Y row hs hg hr => ⟨boxed_own (β := Unit) _ _ (fun _ => _) () X Y row hs.1 hg hr, boxed_own (β := Unit) _ _ (fun _ => _) () X Y row hs.2 hg hr⟩) _) (Own.from (R_own _ _ _) _)) (ownFrom_below (Nat.le_refl _) (by simp; omega)))
    (fun _ _ _ _ _ hs _ _ => hs)
    ⟨⟨⟨b0, b1⟩, ho5⟩, hB⟩
    (fun x => { tmps := #[.slice A0 l0.length c0, .int .u64 a1, undef, undef, .slice none 0 0, .int .i64 0, .pointer (some ⟨w1.heap.size, 0, none⟩), .pointer (some ⟨w1.heap.size + 1, 0, none⟩), .int .i64 (x.1 : Int), .slice A0 l0.length c0, .slice A1 l0.length c1, .slice A0 l0.length c0, .int .u64 a1, .func (.func 36) #[] #[.pointer (some ⟨w1.heap.size + 1 + 1, 0, none⟩)], .func (.func 35) #[] #[.pointer (some ⟨w1.heap.size + 1 + 1 + 1, 0, none⟩), .pointer (some ⟨w1.heap.size + 1 + 1 + 1 + 1, 0, none⟩)], .int .i64 (x.1 : Int), undef, undef, undef, undef, undef, undef, undef, undef], defers := [] }) ?assign ?body ?done ?stop
  case assign =>
    intro l x W K hK
    gi_wp2
    exact hK
  case body =>
    rintro l pre x W ⟨⟨⟨v0, v1⟩, vr⟩, hBW⟩ hlen
    obtain ⟨g, c, hv, hg, ⟨x0, hx0⟩, ⟨x1, hx1⟩, hf0, hf1, vr2⟩ := R_put vr x.1 (by rw [dropAll_length]; exact x.2) ⟨0, 0⟩
    rw [dropAll_length] at hv
    injection hv with hv1 hv3 hv2
    clear hv3
    subst hv1
    subst hv2
    have hgl := (hA _ rfl).2
    have hxl := x.2
    have hc0' := v0.cell
    have hc1' := v1.cell
    have hfr1 := v1.frozen
    have hl2 : pre.length < 9223372036854775807 := by omega
    have HV := Aside0.mk vr2
    clear vr vr2 hA hseq ho5 hB hbl hB1 b0 b1 b2 b3 b4 ho hclone
    gi_wp2
    have k0 := (v0.far (p := ⟨g, x.1 * 2, none⟩) (by dsimp only; omega) (.int .u64 0)).far (p := ⟨g, x.1 * 2 + 1, none⟩) (by dsimp only; omega) (.int .i64 0)
    have k1 := (v1.far (p := ⟨g, x.1 * 2, none⟩) (by dsimp only; omega) (.int .u64 0)).far (p := ⟨g, x.1 * 2 + 1, none⟩) (by dsimp only; omega) (.int .i64 0)
    refine ⟨(((KeepsOthers.setCell _ _ _).trans (KeepsOthers.setCell _ _ _)).trans (KeepsOthers.setCell _ _ _)).from _, ⟨(((Below.refl _ _).setCell (p := ⟨g, x.1 * 2, none⟩) hg _).setCell (p := ⟨g, x.1 * 2 + 1, none⟩) hg _).setCell (p := ⟨w1.heap.size + 1, 0, none⟩) (by simp; omega) _, fun i hi => ?_⟩, ⟨⟨k0.far (p := ⟨w1.heap.size + 1, 0, none⟩) (by simp) _, ?_⟩, ?_⟩, ((hBW.setCell (p := ⟨g, x.1 * 2, none⟩) hg _).setCell (p := ⟨g, x.1 * 2 + 1, none⟩) hg _).setCell (p := ⟨w1.heap.size + 1, 0, none⟩) (by simp; omega) _⟩
    · have hi2 : i ≠ g ∧ i ≠ w1.heap.size + 1 := by simp at hi; omega
      exact ((Below.heap_setCell _ _ _ i hi2.2).trans (Below.heap_setCell _ ⟨g, x.1 * 2 + 1, none⟩ _ i hi2.1)).trans (Below.heap_setCell _ ⟨g, x.1 * 2, none⟩ _ i hi2.1)
    · have := k1.set (.int .i64 (((pre ++ [x]).length : Nat) : Int))
      simpa using this
    · rw [List.map_append, List.map_cons, List.map_nil, dropAll_snoc]
      exact Kd.R_set HV.out k1 (by decide) 0 _
  case done =>
    rintro D ys W hD hS ⟨⟨⟨v0, v1⟩, vr⟩, hBW⟩ hK
    have hS' : ys.map (fun x => (x.1 : Int)) = idxs (its a1) l0 0 := hS
    have hlen : (ys.length : Int) = ((idxs (its a1) l0 0).length : Int) := by rw [← hS', List.length_map]
    rw [hS'] at vr
    rw [hlen] at v1
    have hc0' := v0.cell
    have hc1' := v1.cell
    have HV := Aside0.mk vr
    have HD := Aside0.mk hD
    clear vr hA hseq ho5 hB hbl hB1 b0 b1 b2 b3 b4 ho hclone hlen hS hS' hD
    gi_wp2
    gi_quiet (fail)
    gi_wp2
    have hK' : (W.drewN nq).heap[D]? = some (.deferred (some [])) := hK
    refine ⟨by simp, .inl ⟨_, _, rfl, run_takeDeferred hK', ?_⟩⟩
    refine ⟨.tuple #[.slice A1 l0.length c1, .int .i64 ((idxs (its a1) l0 0).length : Int)], by simp [results, Try.f11, go_sem], _, rfl, ?_, ?_⟩
    · exact R_own (β := Unit) (fun _ => _) _ _ () _ _ (some D) (Kd.R_drewN HV.out nq) (grownBy_putObj' _ D (.deferred none)) (fun r e => by cases e; exact ⟨_, hK', rfl⟩)
    · exact (pw_below_drewN hBW nq).trans (belowK_b (w := w) (Nat.le_refl _) _ D _ _ (by have := HD.out; simp at this; omega) hK' rfl rfl)
  case stop =>
    rintro D c pre W _ _ h _
    exact h.elim
theorem frames_Drop.calls (A0 : Option Addr) (c0 : Nat) (l0 : List (S45)) (a1 : Int) (r1 : List (S45)) (r2 : Int) (w : World) (hr0 : Kd.C k45 w A0 l0.length l0) (hc0 : l0.length ≤ c0) (h : frames_Drop.f l0 a1 = some (r1, r2)) :
    Calls Try.prog 11 #[.slice A0 l0.length c0, .int .u64 a1] w fun e w' => ∃ v0_ : Value, e = .returned (.tuple #[v0_, .int .i64 r2]) ∧ Kd.R k45 45 w' w.heap.size (fun _ => True) v0_ r1 ∧ Below w.heap.size w w' := by
  unfold frames_Drop.f at h
  by_cases hl : l0.length < 8796093022208
  · rw [if_pos hl] at h
    simp only [Option.some.injEq, Prod.mk.injEq] at h
    obtain ⟨rfl, rfl⟩ := h
    exact Drop_any A0 c0 l0 a1 w hr0 hc0 hl
  · rw [if_neg hl] at h
    exact absurd h (by simp)
end Go.Proofs.Ytgpdiehdljecnaa.X
