/- Texts of this claim that stand one behind another, merged. -/
import Derived.Test.YtbelnkdbghggmaaGreatDoorMr3
import Derived.Sort.CutIn
import Derived.Test.YtbelnkdbghggmaaGreatDoorMr2
namespace Go.Proofs.YtbelnkdbghggmaaGreatDoor.X
open Go.RowKit Go.Shelf Go.Proofs.YtbelnkdbghggmaaGreatDoorW.PrintWords Go.Proofs.YtbelnkdbghggmaaGreatDoorW.PrintLast
attribute [local go_sem] Oper.semAt_some
set_option linter.unusedVariables false
set_option linter.unusedSimpArgs false
/-- What is wrong with a line; 0: nothing. -/
def stepE (m : Marks) (p : Int × S40) : Int :=
  if goodB p.2 = true then (if p.2.f0.toList = ([] : List UInt8) then (if p.1 = 4096 then 6 else 0) else (if Mp.hasL p.2.f0 m = true then 12 else 0)) else 11
def stepM (m : Marks) (p : Int × S40) : Marks := if p.2.f0.toList = ([] : List UInt8) then m else Mp.putL p.2.f0 p.1 m
/-- Marks behind lines of which none is wrong. -/
def okL : List (Int × S40) → Marks → Option Marks
  | [], m => some m
  | p :: r, m => if stepE m p = 0 then okL r (stepM m p) else none
theorem okL_append (a b : List (Int × S40)) (m : Marks) : okL (a ++ b) m = (okL a m).bind (okL b) := by
  induction a generalizing m with
  | nil => rfl
  | cons p r ih =>
    simp only [List.cons_append, okL]
    split
    · exact ih _
    · rfl
theorem okL_snoc {a : List (Int × S40)} {m m' : Marks} (p : Int × S40) (h : okL a m = some m') (h0 : stepE m' p = 0) : okL (a ++ [p]) m = some (stepM m' p) := by
  rw [okL_append, h]
  simp [okL, h0]
/-- The line with an error, the error, the marks. -/
def lookR : List (Int × S40) → Nat → Marks → Int × Int × Marks
  | [], _, m => (0, 0, m)
  | p :: r, i, m => if stepE m p = 0 then lookR r (i + 1) (stepM m p) else ((i : Int), stepE m p, m)
theorem lookR_ok {a : List (Int × S40)} {m m' : Marks} (i : Nat) (h : okL a m = some m') : lookR a i m = (0, 0, m') := by
  induction a generalizing m i with
  | nil => cases h; rfl
  | cons p r ih =>
    simp only [okL] at h
    split at h
    · rename_i h0
      simp only [lookR, if_pos h0]
      exact ih _ h
    · cases h
theorem lookR_bad {a b : List (Int × S40)} {m m' : Marks} (i : Nat) (p : Int × S40) (h : okL a m = some m') (h0 : stepE m' p ≠ 0) : lookR (a ++ p :: b) i m = (((i + a.length : Nat) : Int), stepE m' p, m') := by
  induction a generalizing m i with
  | nil =>
    cases h
    simp [lookR, h0]
  | cons q r ih =>
    simp only [okL] at h
    split at h
    · rename_i h1
      simp only [List.cons_append, lookR, if_pos h1]
      rw [ih _ h]
      simp [Nat.add_assoc, Nat.add_comm 1]
    · cases h
theorem mem_placed {l : List S40} {k : Nat} {p : Int × S40} (h : p ∈ placedL l k) : p.2 ∈ l ∧ (k : Int) ≤ p.1 ∧ p.1 < (k : Int) + l.length := by
  induction l generalizing k with
  | nil => cases h
  | cons x r ih =>
    simp only [placedL, List.mem_cons] at h
    rcases h with rfl | h
    · exact ⟨List.mem_cons_self, Int.le_refl _, by simp only [List.length_cons]; omega⟩
    · obtain ⟨h1, h2, h3⟩ := ih h
      refine ⟨List.mem_cons_of_mem _ h1, ?_, ?_⟩
      · split at h2 <;> omega
      · simp only [List.length_cons]
        split at h3 <;> omega
theorem own_keep {X Y : World} {row : Option Nat} {n : Nat} (hg : X.grownBy Y row) (hr : ∀ r, row = some r → n ≤ r ∧ ∃ o : Obj, X.heap[r]? = some o ∧ o.isCells = false) {k : Nat} {o : Obj} (hk : k < n) (h : X.heap[k]? = some o) : Y.heap[k]? = some o :=
  (hg.block k (Array.getElem?_eq_some_iff.1 h).1 (fun e => by have := (hr k e.symm).1; omega)).trans h
theorem boxB {W w2 : World} {B : Nat} {t : TypeId} {v : Value} (h : Boxed W B t v) (hb : Below W.heap.size W w2) : Boxed w2 B t v := blk_below h hb
theorem put_blk {W : World} {M b : Nat} {o o' : Obj} (hne : M ≠ b) (h : W.heap[b]? = some o) : (W.putObj M o').heap[b]? = some o := (World.putObj_heap_other (Ne.symm hne)).trans h
theorem KeepT.put {n₀ : Nat} {R : Nat → Prop} (W : World) (M : Nat) {o : Obj} (o' : Obj) (hn : n₀ ≤ M) (h : W.heap[M]? = some o) (h1 : o.isCells = false) : KeepT n₀ R W (W.putObj M o') :=
  KeepT.of_same ((Below.refl n₀ W).grown (grownBy_putObj' W M o') (by have := (Array.getElem?_eq_some_iff.1 h).1; omega) (fun k e => by cases e; exact hn)) (fun i cs t fr _ _ ho => put_blk (fun e => by subst e; rw [h] at ho; injection ho with ho; rw [ho] at h1; cases h1) ho)
theorem KeepT.drew {n₀ : Nat} {R : Nat → Prop} (W : World) : KeepT n₀ R W W.drew := KeepT.of_same (below_drew1 (Below.refl _ _)) fun _ _ _ _ _ _ h => h
theorem own_map {X Y : World} {row : Option Nat} {n M : Nat} {m : Marks} (hg : X.grownBy Y row) (hr : ∀ r, row = some r → n ≤ r ∧ ∃ o : Obj, X.heap[r]? = some o ∧ o.isCells = false) (hk : M < n) (h : Mp.Is Mp.encS Mp.encN X M m) : Mp.Is Mp.encS Mp.encN Y M m :=
  h.step (hg.block M h.lt (fun e => by have := (hr M e.symm).1; omega))
/-- A line with its place, as the model's. -/
def wfP (p : Int × S40) : Prop := (0 ≤ p.1 ∧ p.1 ≤ 1099511627776) ∧ wfX p.2
abbrev El := {p : Int × S40 // wfP p}
abbrev vals (l : List El) : List (Int × S40) := l.map (·.1)
set_option maxRecDepth 100000 in
set_option maxHeartbeats 8000000 in
theorem look_any (n₀ Bp M : Nat) (A : Option Addr) (c : Nat) (xs : List S40) (ov : Value) (w0 w : World) (hr : Kd.C k40 w0 A xs.length xs) (hn0 : w0.heap.size = n₀) (hb : Below n₀ w0 w) (hwf : ∀ p ∈ placedL xs 0, wfP p) (hx40 : xs.length ≤ 1099511627776)
    (hp : w.heap[Bp]? = some (.cells #[.slice A xs.length c, .map (some M), ov] 60 (0, 0))) (hM : Mp.Is Mp.encS Mp.encN w M ([] : Marks)) (hpn : n₀ ≤ Bp) (hMn : n₀ ≤ M) :
    Calls Tryz.prog 22 #[.pointer (some ⟨Bp, 0, none⟩)] w fun e_ w' => e_ = .returned (.tuple #[.int .i64 (lookR (placedL xs 0) 0 []).1, .int .i64 (lookR (placedL xs 0) 0 []).2.1]) ∧ Below n₀ w w' ∧ w.heap.size ≤ w'.heap.size ∧ w'.heap[Bp]? = some (.cells #[.slice A xs.length c, .map (some M), ov] 60 (0, 0)) ∧ Mp.Is Mp.encS Mp.encN w' M (lookR (placedL xs 0) 0 []).2.2 := by
  have hplaced := fun n W => (callsIn_wide (n := n)).2 (placed_calls A xs.length c W)
  have hs0 := hb.size
  have hMl := hM.lt
  have hpl : Bp < w.heap.size := (Array.getElem?_eq_some_iff.1 hp).1
  have hpc := blk_cell (blk_alloc (blk_alloc (blk_alloc (blk_alloc hp (.cells #[.pointer (some ⟨Bp, 0, none⟩)] 57)) (.cells #[.int .i64 0] 3)) (.cells #[.int .i64 0] 24)) (.cells #[.int .i64 0] 3)) 0
  simp only [List.getElem?_toArray, List.getElem?_cons_zero] at hpc
  refine (callsIn_wide (n := 3)).1 ?_
  refine callsIn_of_wp_marks Tryz.func22 rfl trivial ?_ rfl
  simp only [Tryz.ntmps22, List.size_toArray, List.length_cons, List.length_nil, Nat.reduceAdd, Nat.reduceSub, Array.replicate_succ, Array.replicate_zero, List.push_toArray, List.append_toArray, List.nil_append, List.cons_append]
  gi_wp2_with (refine ⟨trivial, ?_⟩; gi_at_call 48; refine (hplaced _ _).mono ?_; rintro e_ w3 ⟨rfl, rfl⟩)
  obtain ⟨W3, hW3⟩ : ∃ W3, W3 = ((((w.alloc (.cells #[.pointer (some ⟨Bp, 0, none⟩)] 57)).alloc (.cells #[.int .i64 0] 3)).alloc (.cells #[.int .i64 0] 24)).alloc (.cells #[.int .i64 0] 3)).alloc (.cells #[.slice A xs.length c] 23) := ⟨_, rfl⟩
  rw [← hW3]
  have hsz : W3.heap.size = w.heap.size + 5 := by rw [hW3]; simp
  have hB : Below w.heap.size w W3 := by rw [hW3]; exact below_alloc (below_alloc (below_alloc (below_alloc (below_alloc (Below.refl _ w) _) _) _) _) _
  have hb1 : Boxed W3 w.heap.size 57 (.pointer (some ⟨Bp, 0, none⟩)) := by rw [hW3]; exact blk_alloc (blk_alloc (blk_alloc (blk_alloc (blk_new1 _ _ _ rfl) _) _) _) _
  have hb2 : Boxed W3 (w.heap.size + 1) 3 (.int .i64 0) := by rw [hW3]; exact blk_alloc (blk_alloc (blk_alloc (blk_new1 _ _ _ (by simp)) _) _) _
  have hb3 : Boxed W3 (w.heap.size + 2) 24 (.int .i64 0) := by rw [hW3]; exact blk_alloc (blk_alloc (blk_new1 _ _ _ (by simp)) _) _
  have hb4 : Boxed W3 (w.heap.size + 3) 3 (.int .i64 0) := by rw [hW3]; exact blk_alloc (blk_new1 _ _ _ (by simp)) _
  have hb5 : W3.heap[w.heap.size + 4]? = some (.cells #[.slice A xs.length c] 23 (0, 0)) := by rw [hW3]; exact blk_new1 _ _ _ (by simp)
  have hB3 : Below n₀ w0 W3 := hb.trans (hB.mono (by omega))
  have hp3 : W3.heap[Bp]? = some (.cells #[.slice A xs.length c, .map (some M), ov] 60 (0, 0)) := (hB.block Bp hpl).trans hp
  have hM3 : Mp.Is Mp.encS Mp.encN W3 M ([] : Marks) := hM.step (hB.block M hMl)
  have hBn : Below n₀ w W3 := hB.mono (by omega)
  have hseq := placed_stopsG wfP 2 (by decide) (w.heap.size + 4) c n₀ (fun i => i = w.heap.size + 3) A xs w0 W3 hr hn0 hB3 hwf hb5 (by omega) (fun i h => by omega)
  clear hW3 hplaced hb5 hpc hp hM hb
  refine wpIn_rangeFunc_ownH rfl (by decide) (gf := 67) (lb := #[.pointer (some ⟨w.heap.size + 4, 0, none⟩)]) rfl trivial (enters_of Tryz.func67 (by kernel_rfl) rfl) hseq (fun h k => KeepT.trans h k) (KeepT.putObj (by omega)) (Below.refl _ _) (fun _ => rfl)
    (fun pre W => ((∃ m, okL (vals pre) [] = some m ∧ Mp.Is Mp.encS Mp.encN W M m) ∧ Boxed W w.heap.size 57 (.pointer (some ⟨Bp, 0, none⟩)) ∧ Boxed W (w.heap.size + 1) 3 (.int .i64 0) ∧ Boxed W (w.heap.size + 2) 24 (.int .i64 0) ∧ Boxed W (w.heap.size + 3) 3 (.int .i64 pre.length) ∧ W.heap[Bp]? = some (.cells #[.slice A xs.length c, .map (some M), ov] 60 (0, 0)) ∧ w.heap.size + 5 ≤ W.heap.size) ∧ Below n₀ w W)
    (fun cd pre W => (cd = .ret ∧ (∃ (q : List El) (z : El) (m : Marks), pre = q ++ [z] ∧ okL (vals q) [] = some m ∧ stepE m z.1 ≠ 0 ∧ Mp.Is Mp.encS Mp.encN W M m ∧ Boxed W (w.heap.size + 1) 3 (.int .i64 q.length) ∧ Boxed W (w.heap.size + 2) 24 (.int .i64 (stepE m z.1))) ∧ W.heap[Bp]? = some (.cells #[.slice A xs.length c, .map (some M), ov] 60 (0, 0)) ∧ w.heap.size + 5 ≤ W.heap.size) ∧ Below n₀ w W)
    ?own ?ownx ?start
    (fun x a' W => ∃ q : Nat, a' = { tmps := #[.pointer (some ⟨Bp, 0, none⟩), .pointer (some ⟨w.heap.size, 0, none⟩), .pointer (some ⟨w.heap.size + 1, 0, none⟩), .pointer (some ⟨w.heap.size + 2, 0, none⟩), .pointer (some ⟨w.heap.size + 3, 0, none⟩), .int .i64 x.1.1, .pointer (some ⟨q, 0, none⟩), undef, undef, .pointer (some ⟨Bp, 0, none⟩), .pointer (some ⟨Bp, 0, none⟩), .pointer (some ⟨Bp, 0, none⟩), .slice A xs.length c, .func (.func 67) #[] #[.pointer (some ⟨w.heap.size + 4, 0, none⟩)], .int .i64 x.1.1, .agg (lineC x.1.2), undef, undef, undef, undef, undef, undef, undef, undef, undef, undef, undef, undef, undef, undef, undef, undef, undef, undef, undef, undef, undef, undef, undef, undef, undef, undef, undef, undef, undef, undef, undef, undef, undef], defers := [] } ∧ W.heap[q]? = some (.cells (lineC x.1.2) 40 (0, 0)) ∧ w.heap.size + 5 ≤ q)
    (fun x a' => Own.from (fun s X Y row hs hg hr => (let ⟨q, h1, h2, h3⟩ := hs; ⟨q, h1, blk_own (β := Unit) q _ _ () X Y row h2 hg hr, h3⟩)) _) ?assign ?body ?done ?stop
  case own =>
    exact OwnFrom.and (fun s X Y row hs hg hr => (let ⟨⟨m, h1, h2⟩, h3, h4, h5, h6, h7, h8⟩ := hs; ⟨⟨m, h1, own_map hg hr (by omega) h2⟩, own_keep hg hr (by omega) h3, own_keep hg hr (by omega) h4, own_keep hg hr (by omega) h5, own_keep hg hr (by omega) h6, own_keep hg hr (by omega) h7, Nat.le_trans h8 hg.size⟩)) (ownFrom_below (by omega) (by omega))
  case ownx =>
    exact fun cd => OwnFrom.and (fun s X Y row hs hg hr => (let ⟨h0, ⟨q, z, m, h1, h2, h3, h4, h5, h6⟩, h7, h8⟩ := hs; ⟨h0, ⟨q, z, m, h1, h2, h3, own_map hg hr (by omega) h4, own_keep hg hr (by omega) h5, own_keep hg hr (by omega) h6⟩, own_keep hg hr (by omega) h7, Nat.le_trans h8 hg.size⟩)) (ownFrom_below (by omega) (by omega))
  case start => exact ⟨⟨⟨[], rfl, hM3⟩, hb1, hb2, hb3, hb4, hp3, by omega⟩, hBn⟩
  case assign =>
    intro l pre x W K hI hK
    obtain ⟨⟨⟨m, hm1, hm2⟩, hv1, hv2, hv3, hv4, hvp, hsW⟩, hBW⟩ := hI
    unfold lineC
    gi_wp2
    exact hK _ _ (KeepsFrom.of_grownBy (World.grownBy_alloc W _ none) (fun j e => by cases e)) (KeepT.of_below (below_alloc (Below.refl _ _) _) (by omega)) ⟨⟨⟨m, hm1, hm2.below (below_alloc (Below.refl _ _) _)⟩, blk_alloc hv1 _, blk_alloc hv2 _, blk_alloc hv3 _, blk_alloc hv4 _, blk_alloc hvp _, by simp; omega⟩, hBW.alloc (by omega) _⟩ ⟨W.heap.size, rfl, blk_new W _, by omega⟩
  case body =>
    rintro lp pre x a' W hl hex ⟨⟨⟨m, hm1, hm2⟩, hv1, hv2, hv3, hv4, hvp, hsW⟩, hBW⟩ ⟨q, rfl, hq, hqn⟩ hlen
    obtain ⟨x, hx⟩ := x
    have hxx := hx.2
    replace hq : W.heap[q]? = some (.cells (lineC x.2) 40 (0, 0)) := hq
    have hgood := fun n W => CallsIn.inRound lp ((callsIn_wide (n := n)).2 (good_any x.2 hxx W))
    have hstep : stepE m x = (if goodB x.2 = true then (if x.2.f0.toList = ([] : List UInt8) then (if x.1 = 4096 then 6 else 0) else (if Mp.hasL x.2.f0 m = true then 12 else 0)) else 11) := rfl
    have hq0 : W.cell? ⟨q, 0, none⟩ = some (.string x.2.f0) := (blk_cell hq 0).trans rfl
    have hq1 : W.cell? ⟨q, 1, none⟩ = some (.int .i64 x.2.f1.f0) := (blk_cell hq 1).trans rfl
    have hq2 : W.cell? ⟨q, 2, none⟩ = some (.int .i64 x.2.f1.f1) := (blk_cell hq 2).trans rfl
    have hq3 : W.cell? ⟨q, 3, none⟩ = some (.int .i64 x.2.f1.f2) := (blk_cell hq 3).trans rfl
    have hq4 : W.cell? ⟨q, 4, none⟩ = some (.int .i64 x.2.f1.f3) := (blk_cell hq 4).trans rfl
    have hq5 : W.cell? ⟨q, 5, none⟩ = some (.int .i32 x.2.f1.f4) := (blk_cell hq 5).trans rfl
    have hq6 : W.cell? ⟨q, 6, none⟩ = some (.string x.2.f2) := (blk_cell hq 6).trans rfl
    have HQ := Lib.hid hq
    have HV1 := Lib.hid hv1
    have HV2 := Lib.hid hv2
    have HV3 := Lib.hid hv3
    have HV4 := Lib.hid hv4
    have HVP := Lib.hid hvp
    have HBW := Lib.hid hBW
    have HM1 := Lib.hid hm1
    have HM2 := Lib.hid hm2
    have HST := Lib.hid hstep
    have hu28 := Tryz.underlying40
    have hmx : Tryz.prog.follows .mixedOrders = true := by kernel_rfl
    have hp40 : pre.length < 1099511627776 := by omega
    clear hq hv1 hv2 hv3 hv4 hvp hBW hm1 hm2 hstep hseq hb1 hb2 hb3 hb4 hp3 hM3 hB3 hBn hB hex hr hwf
    unfold lineC at *
    dsimp only
    have hmn : M ≠ w.heap.size + 1 ∧ M ≠ w.heap.size + 2 ∧ M ≠ w.heap.size + 3 := by omega
    have HMN1 := Lib.hid hmn.1
    have HMN2 := Lib.hid hmn.2.1
    have HMN3 := Lib.hid hmn.2.2
    clear hmn
    cases g : goodB x.2 with
    | false =>
      have HE : Hid (stepE m x = 11) := Lib.hid (by rw [HST.out, g]; rfl)
      gi_wp2_with (refine ⟨trivial, ?_⟩; gi_at_call 17; refine (hgood _ _).mono ?_; rintro e_ w2 ⟨rfl, hb2⟩; rw [g]; have hk4 : w2.cell? ⟨w.heap.size + 3, 0, none⟩ = some (.int .i64 pre.length) := (blk_cell (blk_below HV4.out hb2) 0).trans rfl; have hk2 : w2.cell? ⟨w.heap.size + 1, 0, none⟩ = some (.int .i64 0) := (blk_cell (blk_below HV2.out hb2) 0).trans rfl; have hk3 : w2.cell? ⟨w.heap.size + 2, 0, none⟩ = some (.int .i64 0) := (blk_cell (blk_below HV3.out hb2) 0).trans rfl; have hf2 := blk_frozen (blk_below HV2.out hb2) 0; have hf3 := blk_frozen (blk_below HV3.out hb2) 0; have hf4 := blk_frozen (blk_below HV4.out hb2) 0; have hs2 := hb2.size; have hq20 : w2.cell? ⟨q, 0, none⟩ = some (.string x.2.f0) := (blk_cell (blk_below HQ.out hb2) 0).trans rfl; have hp21 : w2.cell? ⟨Bp, 1, none⟩ = some (.map (some M)) := (blk_cell (blk_below HVP.out hb2) 1).trans rfl; have hk1 : w2.cell? ⟨w.heap.size, 0, none⟩ = some (.pointer (some ⟨Bp, 0, none⟩)) := (blk_cell (blk_below HV1.out hb2) 0).trans rfl)
      have hM' : Mp.Is Mp.encS Mp.encN ((w2.setCell ⟨w.heap.size + 1, 0, none⟩ (.int .i64 pre.length)).setCell ⟨w.heap.size + 2, 0, none⟩ (.int .i64 (stepE m x))) M m := ((HM2.out.below hb2).step (Below.heap_setCell _ _ _ _ HMN1.out)).step (Below.heap_setCell _ _ _ _ HMN2.out)
      rw [HE.out] at hM'
      refine ⟨((KeepsFrom.of_grownBy (grown_of_below hb2 none) (fun j e => by cases e)).trans ((KeepsOthers.setCell _ _ _).from _)).trans ((KeepsOthers.setCell _ _ _).from _), ⟨rfl, ⟨pre, ⟨x, hx⟩, m, rfl, HM1.out, (by dsimp only; rw [HE.out]; decide), hM', ((boxB HV2.out hb2).set _).other (by omega) _, (by dsimp only; rw [HE.out]; exact ((boxB HV3.out hb2).other (by omega) _).set _)⟩, ((Below.heap_setCell _ _ _ _ (by dsimp only; omega)).trans (Below.heap_setCell _ _ _ _ (by dsimp only; omega))).trans (blk_below HVP.out hb2), by simp; omega⟩, ((HBW.out.trans (hb2.mono (by omega))).setCell (p := ⟨w.heap.size + 1, 0, none⟩) (by dsimp only; omega) _).setCell (p := ⟨w.heap.size + 2, 0, none⟩) (by dsimp only; omega) _⟩
    | true =>
      by_cases hmk : x.2.f0.toList = []
      · have hmk2 : x.2.f0.toList.isEmpty = true := by rw [hmk]; rfl
        have hsm : stepM m x = m := by unfold stepM; rw [if_pos hmk]
        have HSM := Lib.hid hsm
        clear hsm
        rcases h4 : (x.1 == 4096) with _ | _
        · have h5 : ¬ x.1 = 4096 := by simpa using h4
          have HE : Hid (stepE m x = 0) := Lib.hid (by rw [HST.out, g, if_pos rfl, if_pos hmk, if_neg h5])
          clear h5
          gi_wp2_with (refine ⟨trivial, ?_⟩; gi_at_call 17; refine (hgood _ _).mono ?_; rintro e_ w2 ⟨rfl, hb2⟩; rw [g]; have hk4 : w2.cell? ⟨w.heap.size + 3, 0, none⟩ = some (.int .i64 pre.length) := (blk_cell (blk_below HV4.out hb2) 0).trans rfl; have hk2 : w2.cell? ⟨w.heap.size + 1, 0, none⟩ = some (.int .i64 0) := (blk_cell (blk_below HV2.out hb2) 0).trans rfl; have hk3 : w2.cell? ⟨w.heap.size + 2, 0, none⟩ = some (.int .i64 0) := (blk_cell (blk_below HV3.out hb2) 0).trans rfl; have hf2 := blk_frozen (blk_below HV2.out hb2) 0; have hf3 := blk_frozen (blk_below HV3.out hb2) 0; have hf4 := blk_frozen (blk_below HV4.out hb2) 0; have hs2 := hb2.size; have hq20 : w2.cell? ⟨q, 0, none⟩ = some (.string x.2.f0) := (blk_cell (blk_below HQ.out hb2) 0).trans rfl; have hp21 : w2.cell? ⟨Bp, 1, none⟩ = some (.map (some M)) := (blk_cell (blk_below HVP.out hb2) 1).trans rfl; have hk1 : w2.cell? ⟨w.heap.size, 0, none⟩ = some (.pointer (some ⟨Bp, 0, none⟩)) := (blk_cell (blk_below HV1.out hb2) 0).trans rfl)
          refine ⟨(KeepsFrom.of_grownBy (grown_of_below hb2 none) (fun j e => by cases e)).trans ((KeepsOthers.setCell _ _ _).from _), (KeepT.of_below hb2 (by omega)).trans (KeepT.set _ _ _ _ (by omega) rfl), ⟨⟨m, ?_, (HM2.out.below hb2).step (Below.heap_setCell _ _ _ _ HMN3.out)⟩, (boxB HV1.out hb2).other (by omega) _, (boxB HV2.out hb2).other (by omega) _, (boxB HV3.out hb2).other (by omega) _, ?_, (Below.heap_setCell _ _ _ _ (by dsimp only; omega)).trans (blk_below HVP.out hb2), by simp; omega⟩, (HBW.out.trans (hb2.mono (by omega))).setCell (p := ⟨w.heap.size + 3, 0, none⟩) (by dsimp only; omega) _⟩
          · have := okL_snoc x HM1.out HE.out
            rw [HSM.out] at this
            simpa [vals] using this
          · have := (boxB HV4.out hb2).set (.int .i64 ((pre.length + 1 : Nat) : Int))
            simpa using this
        · have h5 : x.1 = 4096 := by simpa using h4
          have HE : Hid (stepE m x = 6) := Lib.hid (by rw [HST.out, g, if_pos rfl, if_pos hmk, if_pos h5])
          clear h5
          gi_wp2_with (refine ⟨trivial, ?_⟩; gi_at_call 17; refine (hgood _ _).mono ?_; rintro e_ w2 ⟨rfl, hb2⟩; rw [g]; have hk4 : w2.cell? ⟨w.heap.size + 3, 0, none⟩ = some (.int .i64 pre.length) := (blk_cell (blk_below HV4.out hb2) 0).trans rfl; have hk2 : w2.cell? ⟨w.heap.size + 1, 0, none⟩ = some (.int .i64 0) := (blk_cell (blk_below HV2.out hb2) 0).trans rfl; have hk3 : w2.cell? ⟨w.heap.size + 2, 0, none⟩ = some (.int .i64 0) := (blk_cell (blk_below HV3.out hb2) 0).trans rfl; have hf2 := blk_frozen (blk_below HV2.out hb2) 0; have hf3 := blk_frozen (blk_below HV3.out hb2) 0; have hf4 := blk_frozen (blk_below HV4.out hb2) 0; have hs2 := hb2.size; have hq20 : w2.cell? ⟨q, 0, none⟩ = some (.string x.2.f0) := (blk_cell (blk_below HQ.out hb2) 0).trans rfl; have hp21 : w2.cell? ⟨Bp, 1, none⟩ = some (.map (some M)) := (blk_cell (blk_below HVP.out hb2) 1).trans rfl; have hk1 : w2.cell? ⟨w.heap.size, 0, none⟩ = some (.pointer (some ⟨Bp, 0, none⟩)) := (blk_cell (blk_below HV1.out hb2) 0).trans rfl)
          have hM' : Mp.Is Mp.encS Mp.encN ((w2.setCell ⟨w.heap.size + 1, 0, none⟩ (.int .i64 pre.length)).setCell ⟨w.heap.size + 2, 0, none⟩ (.int .i64 (stepE m x))) M m := ((HM2.out.below hb2).step (Below.heap_setCell _ _ _ _ HMN1.out)).step (Below.heap_setCell _ _ _ _ HMN2.out)
          rw [HE.out] at hM'
          refine ⟨((KeepsFrom.of_grownBy (grown_of_below hb2 none) (fun j e => by cases e)).trans ((KeepsOthers.setCell _ _ _).from _)).trans ((KeepsOthers.setCell _ _ _).from _), ⟨rfl, ⟨pre, ⟨x, hx⟩, m, rfl, HM1.out, (by dsimp only; rw [HE.out]; decide), hM', ((boxB HV2.out hb2).set _).other (by omega) _, (by dsimp only; rw [HE.out]; exact ((boxB HV3.out hb2).other (by omega) _).set _)⟩, ((Below.heap_setCell _ _ _ _ (by dsimp only; omega)).trans (Below.heap_setCell _ _ _ _ (by dsimp only; omega))).trans (blk_below HVP.out hb2), by simp; omega⟩, ((HBW.out.trans (hb2.mono (by omega))).setCell (p := ⟨w.heap.size + 1, 0, none⟩) (by dsimp only; omega) _).setCell (p := ⟨w.heap.size + 2, 0, none⟩) (by dsimp only; omega) _⟩
      · have hmk2 : x.2.f0.toList.isEmpty = false := by cases e : x.2.f0.toList with | nil => exact absurd e hmk | cons a b => rfl
        have hsm : stepM m x = Mp.putL x.2.f0 x.1 m := by unfold stepM; rw [if_neg hmk]
        have HSM := Lib.hid hsm
        clear hsm
        gi_upto_region 11 with (refine ⟨trivial, ?_⟩; gi_at_call 17; refine (hgood _ _).mono ?_; rintro e_ w2 ⟨rfl, hb2⟩; rw [g]; have hk4 : w2.cell? ⟨w.heap.size + 3, 0, none⟩ = some (.int .i64 pre.length) := (blk_cell (blk_below HV4.out hb2) 0).trans rfl; have hk2 : w2.cell? ⟨w.heap.size + 1, 0, none⟩ = some (.int .i64 0) := (blk_cell (blk_below HV2.out hb2) 0).trans rfl; have hk3 : w2.cell? ⟨w.heap.size + 2, 0, none⟩ = some (.int .i64 0) := (blk_cell (blk_below HV3.out hb2) 0).trans rfl; have hf2 := blk_frozen (blk_below HV2.out hb2) 0; have hf3 := blk_frozen (blk_below HV3.out hb2) 0; have hf4 := blk_frozen (blk_below HV4.out hb2) 0; have hs2 := hb2.size; have hq20 : w2.cell? ⟨q, 0, none⟩ = some (.string x.2.f0) := (blk_cell (blk_below HQ.out hb2) 0).trans rfl; have hp21 : w2.cell? ⟨Bp, 1, none⟩ = some (.map (some M)) := (blk_cell (blk_below HVP.out hb2) 1).trans rfl; have hk1 : w2.cell? ⟨w.heap.size, 0, none⟩ = some (.pointer (some ⟨Bp, 0, none⟩)) := (blk_cell (blk_below HV1.out hb2) 0).trans rfl)
        have hM2 := HM2.out.below hb2
        have hlk := Mp.lookup_ok_run Tryz.underlying58 Mp.key9 (encE := Mp.encN) Mp.zero3 (W := w2.drew) (hM2.step rfl) x.2.f0
        unfold Mp.encS Mp.encN at hlk
        have HM2' := Lib.hid hM2
        clear hM2
        gi_cut [7, 8] from 28 (fun v7 v8 wx => v7 = .int .i64 (Mp.getL x.2.f0 0 m) ∧ v8 = .bool (Mp.hasL x.2.f0 m) ∧ wx = w2.drew)
        case first =>
          refine Rh.start (fun wx => wx.cell? ⟨w.heap.size, 0, none⟩ = some (.pointer (some ⟨Bp, 0, none⟩)) ∧ wx.cell? ⟨Bp, 1, none⟩ = some (.map (some M)) ∧ wx.cell? ⟨q, 0, none⟩ = some (.string x.2.f0) ∧ (Instr.lookup 58 (.map (some M)) (.string x.2.f0) true).run Tryz.prog wx = .ok (.tuple #[.int .i64 (Mp.getL x.2.f0 0 m), .bool (Mp.hasL x.2.f0 m)]) wx) (fun _ => false) hmx ?_
          have hS : w2.drew.cell? ⟨w.heap.size, 0, none⟩ = some (.pointer (some ⟨Bp, 0, none⟩)) ∧ w2.drew.cell? ⟨Bp, 1, none⟩ = some (.map (some M)) ∧ w2.drew.cell? ⟨q, 0, none⟩ = some (.string x.2.f0) ∧ (Instr.lookup 58 (.map (some M)) (.string x.2.f0) true).run Tryz.prog w2.drew = .ok (.tuple #[.int .i64 (Mp.getL x.2.f0 0 m), .bool (Mp.hasL x.2.f0 m)]) w2.drew := ⟨hk1, hp21, hq20, hlk⟩
          refine Rh.take (i := 0) (v := ?_) (Rh.noDefer_of (by kernel_rfl)) (Rh.last_of (by kernel_rfl)) rfl (by kernel_rfl) (by kernel_rfl) (by kernel_rfl) (fun _ _ _ h => h) hS rfl (fun _ => rfl) ?hy0 29 rfl ?more0
          case hy0 => (rintro wx ⟨h1, h2, h3, h4⟩; go_simp; first | done | with_reducible rfl)
          simp only [Act.put, List.setIfInBounds_toArray, List.set_cons_zero, List.set_cons_succ]
          refine Rh.take (i := 1) (v := ?_) (Rh.noDefer_of (by kernel_rfl)) (Rh.last_of (by kernel_rfl)) rfl (by kernel_rfl) (by kernel_rfl) (by kernel_rfl) (fun _ _ _ h => h) hS rfl (fun _ => rfl) ?hy1 30 rfl ?more1
          case hy1 => (rintro wx ⟨h1, h2, h3, h4⟩; go_simp; first | done | with_reducible rfl)
          simp only [Act.put, List.setIfInBounds_toArray, List.set_cons_zero, List.set_cons_succ]
          refine Rh.take (i := 2) (v := ?_) (Rh.noDefer_of (by kernel_rfl)) (Rh.last_of (by kernel_rfl)) rfl (by kernel_rfl) (by kernel_rfl) (by kernel_rfl) (fun _ _ _ h => h) hS rfl (fun _ => rfl) ?hy2 31 rfl ?more2
          case hy2 => (rintro wx ⟨h1, h2, h3, h4⟩; go_simp; first | done | with_reducible rfl)
          simp only [Act.put, List.setIfInBounds_toArray, List.set_cons_zero, List.set_cons_succ]
          refine Rh.take (i := 3) (v := ?_) (Rh.noDefer_of (by kernel_rfl)) (Rh.last_of (by kernel_rfl)) rfl (by kernel_rfl) (by kernel_rfl) (by kernel_rfl) (fun _ _ _ h => h) hS rfl (fun _ => rfl) ?hy3 32 rfl ?more3
          case hy3 => (rintro wx ⟨h1, h2, h3, h4⟩; go_simp; first | done | with_reducible rfl)
          simp only [Act.put, List.setIfInBounds_toArray, List.set_cons_zero, List.set_cons_succ]
          refine Rh.take (i := 4) (v := ?_) (Rh.noDefer_of (by kernel_rfl)) (Rh.last_of (by kernel_rfl)) rfl (by kernel_rfl) (by kernel_rfl) (by kernel_rfl) (fun _ _ _ h => h) hS rfl (fun _ => rfl) ?hy4 33 rfl ?more4
          case hy4 => (rintro wx ⟨h1, h2, h3, h4⟩; go_simp; first | done | with_reducible rfl)
          simp only [Act.put, List.setIfInBounds_toArray, List.set_cons_zero, List.set_cons_succ]
          refine Rh.take (i := 5) (v := ?_) (Rh.noDefer_of (by kernel_rfl)) (Rh.last_of (by kernel_rfl)) rfl (by kernel_rfl) (by kernel_rfl) (by kernel_rfl) (fun _ _ _ h => h) hS rfl (fun _ => rfl) ?hy5 34 rfl ?more5
          case hy5 => (rintro wx ⟨h1, h2, h3, h4⟩; go_simp; first | done | with_reducible rfl)
          simp only [Act.put, List.setIfInBounds_toArray, List.set_cons_zero, List.set_cons_succ]
          refine Rh.take (i := 6) (v := ?_) (Rh.noDefer_of (by kernel_rfl)) (Rh.last_of (by kernel_rfl)) rfl (by kernel_rfl) (by kernel_rfl) (by kernel_rfl) (fun _ _ _ h => h) hS rfl (fun _ => rfl) ?hy6 35 rfl ?more6
          case hy6 => (rintro wx ⟨h1, h2, h3, h4⟩; go_simp; first | done | with_reducible rfl)
          simp only [Act.put, List.setIfInBounds_toArray, List.set_cons_zero, List.set_cons_succ]
          refine Rh.take (i := 7) (v := ?_) (Rh.noDefer_of (by kernel_rfl)) (Rh.last_of (by kernel_rfl)) rfl (by kernel_rfl) (by kernel_rfl) (by kernel_rfl) (fun _ _ _ h => h) hS rfl (fun _ => rfl) ?hy7 28 rfl ?more7
          case hy7 => (rintro wx ⟨h1, h2, h3, h4⟩; go_simp; first | done | with_reducible rfl)
          simp only [Act.put, List.setIfInBounds_toArray, List.set_cons_zero, List.set_cons_succ]
          refine Rh.take (i := 8) (v := ?_) (Rh.noDefer_of (by kernel_rfl)) (Rh.last_of (by kernel_rfl)) rfl (by kernel_rfl) (by kernel_rfl) (by kernel_rfl) (fun _ _ _ h => h) hS rfl (fun _ => rfl) ?hy8 36 rfl ?more8
          case hy8 => (rintro wx ⟨h1, h2, h3, h4⟩; go_simp; first | done | with_reducible rfl)
          simp only [Act.put, List.setIfInBounds_toArray, List.set_cons_zero, List.set_cons_succ]
          refine Rh.take (i := 9) (v := ?_) (Rh.noDefer_of (by kernel_rfl)) (Rh.last_of (by kernel_rfl)) rfl (by kernel_rfl) (by kernel_rfl) (by kernel_rfl) (fun _ _ _ h => h) hS rfl (fun _ => rfl) ?hy9 37 rfl ?more9
          case hy9 => (rintro wx ⟨h1, h2, h3, h4⟩; go_simp; first | done | with_reducible rfl)
          simp only [Act.put, List.setIfInBounds_toArray, List.set_cons_zero, List.set_cons_succ]
          refine Rh.take (i := 10) (v := ?_) (Rh.noDefer_of (by kernel_rfl)) (Rh.last_of (by kernel_rfl)) rfl (by kernel_rfl) (by kernel_rfl) (by kernel_rfl) (fun _ _ _ h => h) hS rfl (fun _ => rfl) ?hy10 7 rfl ?more10
          case hy10 => (rintro wx ⟨h1, h2, h3, h4⟩; go_simp; first | done | with_reducible rfl)
          simp only [Act.put, List.setIfInBounds_toArray, List.set_cons_zero, List.set_cons_succ]
          refine Rh.take (i := 11) (v := ?_) (Rh.noDefer_of (by kernel_rfl)) (Rh.last_of (by kernel_rfl)) rfl (by kernel_rfl) (by kernel_rfl) (by kernel_rfl) (fun _ _ _ h => h) hS rfl (fun _ => rfl) ?hy11 8 rfl ?more11
          case hy11 => (rintro wx ⟨h1, h2, h3, h4⟩; go_simp; first | done | with_reducible rfl)
          simp only [Act.put, List.setIfInBounds_toArray, List.set_cons_zero, List.set_cons_succ]
          refine Rh.done (by kernel_rfl) ?_ _
          gi_wp2_with fail
          gi_meet
          case rel => exact ⟨rfl, rfl, rfl⟩
        case rest =>
          obtain ⟨rfl, rfl, rfl⟩ := hcut
          clear hlk
          cases hh : Mp.hasL x.2.f0 m with
          | true =>
            have HE : Hid (stepE m x = 12) := Lib.hid (by rw [HST.out, g, if_pos rfl, if_neg hmk, if_pos hh])
            gi_wp2
            have hM' : Mp.Is Mp.encS Mp.encN (((w2.setCell ⟨w.heap.size + 1, 0, none⟩ (.int .i64 pre.length)).setCell ⟨w.heap.size + 2, 0, none⟩ (.int .i64 12)).drew) M m := ((HM2'.out.step (Below.heap_setCell _ _ _ _ HMN1.out)).step (Below.heap_setCell _ _ _ _ HMN2.out)).step rfl
            refine ⟨(((KeepsFrom.of_grownBy (grown_of_below hb2 none) (fun j e => by cases e)).trans ((KeepsOthers.setCell _ _ _).from _)).trans ((KeepsOthers.setCell _ _ _).from _)).trans (KeepsFrom.of_grownBy (grown_of_below (below_drew1 (Below.refl _ _)) none) (fun j e => by cases e)), ⟨rfl, ⟨pre, ⟨x, hx⟩, m, rfl, HM1.out, (by dsimp only; rw [HE.out]; decide), hM', ((boxB HV2.out hb2).set _).other (by omega) _, (by dsimp only; rw [HE.out]; exact ((boxB HV3.out hb2).other (by omega) _).set _)⟩, ((Below.heap_setCell _ _ _ _ (by dsimp only; omega)).trans (Below.heap_setCell _ _ _ _ (by dsimp only; omega))).trans (blk_below HVP.out hb2), by simp; omega⟩, below_drew1 (((HBW.out.trans (hb2.mono (by omega))).setCell (p := ⟨w.heap.size + 1, 0, none⟩) (by dsimp only; omega) _).setCell (p := ⟨w.heap.size + 2, 0, none⟩) (by dsimp only; omega) _)⟩
          | false =>
            have HE : Hid (stepE m x = 0) := Lib.hid (by rw [HST.out, g, if_pos rfl, if_neg hmk, if_neg (by rw [hh]; decide)])
            obtain ⟨es, clk, hup, hmm⟩ := Mp.mapUpdate_runs Tryz.underlying58 Mp.key9 (encE := Mp.encN) HM2'.out x.2.f0 x.1
            replace hup := hup w2.drew.drew rfl
            unfold Mp.encS Mp.encN at hup
            have HMM := Lib.hid hmm
            clear hmm
            gi_wp2
            refine Rh.start (fun wx => wx.cell? ⟨w.heap.size, 0, none⟩ = some (.pointer (some ⟨Bp, 0, none⟩)) ∧ wx.cell? ⟨Bp, 1, none⟩ = some (.map (some M)) ∧ wx.cell? ⟨q, 0, none⟩ = some (.string x.2.f0)) (fun i => i == 7) hmx ?_
            have hS : w2.drew.drew.cell? ⟨w.heap.size, 0, none⟩ = some (.pointer (some ⟨Bp, 0, none⟩)) ∧ w2.drew.drew.cell? ⟨Bp, 1, none⟩ = some (.map (some M)) ∧ w2.drew.drew.cell? ⟨q, 0, none⟩ = some (.string x.2.f0) := ⟨hk1, hp21, hq20⟩
            refine Rh.take (i := 0) (v := ?_) (Rh.noDefer_of (by kernel_rfl)) (Rh.last_of (by kernel_rfl)) rfl (by kernel_rfl) (by kernel_rfl) (by kernel_rfl) (fun _ _ _ h => h) hS rfl (fun _ => rfl) ?hz0 40 rfl ?mone0
            case hz0 => (rintro wx ⟨h1, h2, h3⟩; go_simp; first | done | with_reducible rfl)
            simp only [Act.put, List.setIfInBounds_toArray, List.set_cons_zero, List.set_cons_succ]
            refine Rh.take (i := 1) (v := ?_) (Rh.noDefer_of (by kernel_rfl)) (Rh.last_of (by kernel_rfl)) rfl (by kernel_rfl) (by kernel_rfl) (by kernel_rfl) (fun _ _ _ h => h) hS rfl (fun _ => rfl) ?hz1 41 rfl ?mone1
            case hz1 => (rintro wx ⟨h1, h2, h3⟩; go_simp; first | done | with_reducible rfl)
            simp only [Act.put, List.setIfInBounds_toArray, List.set_cons_zero, List.set_cons_succ]
            refine Rh.take (i := 2) (v := ?_) (Rh.noDefer_of (by kernel_rfl)) (Rh.last_of (by kernel_rfl)) rfl (by kernel_rfl) (by kernel_rfl) (by kernel_rfl) (fun _ _ _ h => h) hS rfl (fun _ => rfl) ?hz2 42 rfl ?mone2
            case hz2 => (rintro wx ⟨h1, h2, h3⟩; go_simp; first | done | with_reducible rfl)
            simp only [Act.put, List.setIfInBounds_toArray, List.set_cons_zero, List.set_cons_succ]
            refine Rh.take (i := 3) (v := ?_) (Rh.noDefer_of (by kernel_rfl)) (Rh.last_of (by kernel_rfl)) rfl (by kernel_rfl) (by kernel_rfl) (by kernel_rfl) (fun _ _ _ h => h) hS rfl (fun _ => rfl) ?hz3 43 rfl ?mone3
            case hz3 => (rintro wx ⟨h1, h2, h3⟩; go_simp; first | done | with_reducible rfl)
            simp only [Act.put, List.setIfInBounds_toArray, List.set_cons_zero, List.set_cons_succ]
            refine Rh.take (i := 4) (v := ?_) (Rh.noDefer_of (by kernel_rfl)) (Rh.last_of (by kernel_rfl)) rfl (by kernel_rfl) (by kernel_rfl) (by kernel_rfl) (fun _ _ _ h => h) hS rfl (fun _ => rfl) ?hz4 44 rfl ?mone4
            case hz4 => (rintro wx ⟨h1, h2, h3⟩; go_simp; first | done | with_reducible rfl)
            simp only [Act.put, List.setIfInBounds_toArray, List.set_cons_zero, List.set_cons_succ]
            refine Rh.take (i := 5) (v := ?_) (Rh.noDefer_of (by kernel_rfl)) (Rh.last_of (by kernel_rfl)) rfl (by kernel_rfl) (by kernel_rfl) (by kernel_rfl) (fun _ _ _ h => h) hS rfl (fun _ => rfl) ?hz5 45 rfl ?mone5
            case hz5 => (rintro wx ⟨h1, h2, h3⟩; go_simp; first | done | with_reducible rfl)
            simp only [Act.put, List.setIfInBounds_toArray, List.set_cons_zero, List.set_cons_succ]
            refine Rh.take (i := 6) (v := ?_) (Rh.noDefer_of (by kernel_rfl)) (Rh.last_of (by kernel_rfl)) rfl (by kernel_rfl) (by kernel_rfl) (by kernel_rfl) (fun _ _ _ h => h) hS rfl (fun _ => rfl) ?hz6 46 rfl ?mone6
            case hz6 => (rintro wx ⟨h1, h2, h3⟩; go_simp; first | done | with_reducible rfl)
            simp only [Act.put, List.setIfInBounds_toArray, List.set_cons_zero, List.set_cons_succ]
            refine Rh.one (i := 7) rfl (by kernel_rfl) rfl ?_
            go_simp
            have hMo : ∃ es0 c0, w2.drew.drew.heap[M]? = some (.map es0 c0) := (let ⟨es0, c0, h, _⟩ := HM2'.out; ⟨es0, c0, h⟩)
            obtain ⟨es0, c0, hMo⟩ := hMo
            have hb3 : Below W.heap.size W w2.drew.drew := below_drew1 (below_drew1 hb2)
            have e1 : Boxed (w2.drew.drew.putObj M (.map es clk)) w.heap.size 57 (.pointer (some ⟨Bp, 0, none⟩)) := put_blk (by omega) (boxB HV1.out hb3)
            have e2 : Boxed (w2.drew.drew.putObj M (.map es clk)) (w.heap.size + 1) 3 (.int .i64 0) := put_blk HMN1.out (boxB HV2.out hb3)
            have e3 : Boxed (w2.drew.drew.putObj M (.map es clk)) (w.heap.size + 2) 24 (.int .i64 0) := put_blk HMN2.out (boxB HV3.out hb3)
            have e4 : Boxed (w2.drew.drew.putObj M (.map es clk)) (w.heap.size + 3) 3 (.int .i64 pre.length) := put_blk HMN3.out (boxB HV4.out hb3)
            have ep : (w2.drew.drew.putObj M (.map es clk)).heap[Bp]? = some (.cells #[.slice A xs.length c, .map (some M), ov] 60 (0, 0)) := put_blk (fun e => by subst e; have := blk_below HVP.out hb3; rw [hMo] at this; cases this) (blk_below HVP.out hb3)
            have eq : (w2.drew.drew.putObj M (.map es clk)).heap[q]? = some (.cells (lineC x.2) 40 (0, 0)) := put_blk (by omega) (blk_below HQ.out hb3)
            have eM : Mp.Is Mp.encS Mp.encN (w2.drew.drew.putObj M (.map es clk)) M (Mp.putL x.2.f0 x.1 m) := HMM.out _ (World.putObj_heap_same (Array.getElem?_eq_some_iff.1 hMo).1)
            have eB : Below n₀ w (w2.drew.drew.putObj M (.map es clk)) := (below_drew1 (below_drew1 (HBW.out.trans (hb2.mono (by omega))))).grown (grownBy_putObj' _ M _) (by simp; omega) (fun k e => by cases e; omega)
            have eK : KeepsFrom W3.heap.size W (w2.drew.drew.putObj M (.map es clk)) := ((KeepsFrom.of_grownBy (grown_of_below hb2 none) (fun j e => by cases e)).trans (KeepsFrom.of_grownBy (grown_of_below (below_drew1 (below_drew1 (Below.refl _ _))) none) (fun j e => by cases e))).trans (KeepsFrom.of_grownBy (grownBy_putObj' _ M _) (fun j e => by cases e; omega))
            have eT : KeepT n₀ (fun i => i = w.heap.size + 3) W (w2.drew.drew.putObj M (.map es clk)) := (((KeepT.of_below hb2 (by omega)).trans (KeepT.drew _)).trans (KeepT.drew _)).trans (KeepT.put _ M _ hMn hMo rfl)
            have eS : (w2.drew.drew.putObj M (.map es clk)).heap.size = w2.heap.size := by simp
            refine Rh.done (by kernel_rfl) ?_ _
            clear hup hS hk1 hk2 hk3 hk4 hf2 hf3 hf4 hp21 hq20 hMo HMM
            generalize w2.drew.drew.putObj M (.map es clk) = W5 at *
            have i4 := e4.cell
            have j4 := e4.frozen
            have E1 := Lib.hid e1
            have E2 := Lib.hid e2
            have E3 := Lib.hid e3
            have E4 := Lib.hid e4
            have EP := Lib.hid ep
            have EM := Lib.hid eM
            have EB := Lib.hid eB
            have EK := Lib.hid eK
            have ET := Lib.hid eT
            clear e1 e2 e3 e4 ep eq eM eB eK eT hb2 hb3
            gi_wp2
            refine ⟨EK.out.trans ((KeepsOthers.setCell _ _ _).from _), ET.out.trans (KeepT.set _ _ _ _ (by omega) rfl), ⟨⟨Mp.putL x.2.f0 x.1 m, ?_, EM.out.step (Below.heap_setCell _ _ _ _ HMN3.out)⟩, E1.out.other (by omega) _, E2.out.other (by omega) _, E3.out.other (by omega) _, ?_, (Below.heap_setCell _ _ _ _ (by dsimp only; omega)).trans EP.out, by simp; omega⟩, EB.out.setCell (p := ⟨w.heap.size + 3, 0, none⟩) (by dsimp only; omega) _⟩
            · have := okL_snoc x HM1.out HE.out
              rw [HSM.out] at this
              simpa [vals] using this
            · have := E4.out.set (.int .i64 ((pre.length + 1 : Nat) : Int))
              simpa using this
  case done =>
    rintro D ys W hD hS ⟨⟨⟨m, hm1, hm2⟩, hv1, hv2, hv3, hv4, hvp, hsW⟩, hBW⟩ hK
    have hS' : vals ys = placedL xs 0 := hS
    rw [hS'] at hm1
    have hfin := lookR_ok 0 hm1
    have hc2 := hv2.cell
    have hf2 := hv2.frozen
    have hc3 := hv3.cell
    have hf3 := hv3.frozen
    have hDM : D ≠ M := by omega
    have hDp : D ≠ Bp := by omega
    have HFIN := Lib.hid hfin
    have HVP := Lib.hid hvp
    have hM' : Mp.Is Mp.encS Mp.encN ((W.setCell ⟨w.heap.size + 1, 0, none⟩ (.int .i64 0)).setCell ⟨w.heap.size + 2, 0, none⟩ (.int .i64 0)) M m := (hm2.step (Below.heap_setCell _ _ _ _ (by dsimp only; omega))).step (Below.heap_setCell _ _ _ _ (by dsimp only; omega))
    have HM' := Lib.hid hM'
    clear hfin hm1 hm2 hS hS' hvp hM'
    gi_wp2
    have hw1 : Boxed ((W.setCell ⟨w.heap.size + 1, 0, none⟩ (.int .i64 0)).setCell ⟨w.heap.size + 2, 0, none⟩ (.int .i64 0)) (w.heap.size + 1) 3 (.int .i64 0) := (hv2.set _).other (by omega) _
    have hw2 : Boxed ((W.setCell ⟨w.heap.size + 1, 0, none⟩ (.int .i64 0)).setCell ⟨w.heap.size + 2, 0, none⟩ (.int .i64 0)) (w.heap.size + 2) 24 (.int .i64 0) := (hv3.other (by omega) _).set _
    have hK' := ((KeepsOthers.setCell W ⟨w.heap.size + 1, 0, none⟩ (.int .i64 0)).trans (KeepsOthers.setCell _ ⟨w.heap.size + 2, 0, none⟩ (.int .i64 0))).same D _ hK rfl
    have hB' := (hBW.setCell (p := ⟨w.heap.size + 1, 0, none⟩) (by dsimp only; omega) (.int .i64 0)).setCell (p := ⟨w.heap.size + 2, 0, none⟩) (by dsimp only; omega) (.int .i64 0)
    refine ⟨by simp, .inl ⟨_, _, rfl, run_takeDeferred hK', ?_⟩⟩
    have hc5 := cell_kept hw1.cell (grownBy_putObj' _ D (.deferred none)) (fun r e => by cases e; exact ⟨_, hK', rfl⟩)
    have hc6 := cell_kept hw2.cell (grownBy_putObj' _ D (.deferred none)) (fun r e => by cases e; exact ⟨_, hK', rfl⟩)
    refine ⟨.tuple #[.int .i64 0, .int .i64 0], ?_, by rw [HFIN.out], hB'.grown (grownBy_putObj' _ D _) (by simp; omega) (fun k e => by cases e; omega), by simp; omega, ?_, by rw [HFIN.out]; exact HM'.out.step (World.putObj_heap_other (Ne.symm hDM))⟩
    · simp [results, Tryz.f22, go_sem, hc5, hc6]
    · rw [World.putObj_heap_other (Ne.symm hDp), Below.heap_setCell _ _ _ _ (by dsimp only; omega), Below.heap_setCell _ _ _ _ (by dsimp only; omega), HVP.out]
  case stop =>
    rintro D cd pre W hD hpre ⟨⟨rfl, ⟨q, z, m, rfl, hm1, hst, hm2, hv2, hv3⟩, hvp, hsW⟩, hBW⟩ hK
    have hpre' : vals (q ++ [z]) <+: placedL xs 0 := hpre
    obtain ⟨t, ht⟩ := hpre'
    have hfin := lookR_bad (b := t) 0 z.1 hm1 hst
    have e1 : placedL xs 0 = vals q ++ z.1 :: t := by rw [← ht]; simp [vals]
    rw [← e1] at hfin
    have hlq : (vals q).length = q.length := by simp [vals]
    rw [Nat.zero_add, hlq] at hfin
    have hDM : D ≠ M := by omega
    have hDp : D ≠ Bp := by omega
    have HFIN := Lib.hid hfin
    have HVP := Lib.hid hvp
    have HM' := Lib.hid hm2
    clear hfin hm1 hm2 hpre hvp ht e1 hlq
    gi_wp2
    refine ⟨by simp, .inl ⟨_, _, rfl, run_takeDeferred hK, ?_⟩⟩
    have hc5 := cell_kept hv2.cell (grownBy_putObj' _ D (.deferred none)) (fun r e => by cases e; exact ⟨_, hK, rfl⟩)
    have hc6 := cell_kept hv3.cell (grownBy_putObj' _ D (.deferred none)) (fun r e => by cases e; exact ⟨_, hK, rfl⟩)
    refine ⟨.tuple #[.int .i64 q.length, .int .i64 (stepE m z.1)], ?_, by rw [HFIN.out], hBW.grown (grownBy_putObj' _ D _) (by omega) (fun k e => by cases e; omega), by simp; omega, ?_, by rw [HFIN.out]; exact HM'.out.step (World.putObj_heap_other (Ne.symm hDM))⟩
    · simp [results, Tryz.f22, go_sem, hc5, hc6]
    · rw [World.putObj_heap_other (Ne.symm hDp), HVP.out]
end Go.Proofs.YtbelnkdbghggmaaGreatDoor.X
namespace Go.Proofs.YtbelnkdbghggmaaGreatDoor.X
open Go.RowKit Go.Shelf Go.Proofs.YtbelnkdbghggmaaGreatDoorW.PrintWords Go.Proofs.YtbelnkdbghggmaaGreatDoorW.PrintLast
attribute [local go_sem] Oper.semAt_some
set_option linter.unusedVariables false
set_option linter.unusedSimpArgs false
abbrev RW (n₀ : Nat) (W : World) (v : Value) (xs : List Int) : Prop := Kd.R (Kd.int .u64) 63 W n₀ (fun _ => True) v xs
theorem info63 : (Tryz.prog.info? 63).map (fun i => (i.zero, i.size, i.bytes)) = some (some (.int .u64 0), 1, 8) := by kernel_rfl
theorem appendW_run {W : World} {base : Nat} {v : Value} {xs : List Int} {p : Int} (HO : RW base W v xs) (hbase : base ≤ W.heap.size) (hl : (xs.length + 1) * 8 ≤ 140737488355328) (ty : TypeId) :
    ∃ v1 w1, (Builtin.append_ #[34, 34] ty #[v, .slice (some ⟨W.heap.size, 0, none⟩) 1 1]).run Tryz.prog (W.alloc (.cells #[.int .u64 p] 63)) = .ok v1 w1 ∧
      RW base w1 v1 (xs ++ [p]) ∧ W.grownBy w1 v.ownBlock := by
  obtain ⟨i0, hi, hzz⟩ := Option.map_eq_some_iff.1 info63
  simp only [Prod.mk.injEq] at hzz
  obtain ⟨hz0, hz1, hz2⟩ := hzz
  have HO1 := HO
  obtain ⟨h0, inner, hown, hr⟩ := HO
  obtain ⟨v1, w1, hrun, h2, hg, _, hat⟩ := run_append_own_at (P := Tryz.prog) (W.alloc (.cells #[.int .u64 p] 63)) base 34 ty 63 i0 _ 1 8 Tryz.underlying34 hi hz0 hz1 hz2 rfl (by decide) v xs.length inner (World.ownsRow.alloc hown _) ⟨W.heap.size, 0, none⟩ 1 1 [.int .u64 p] rfl
    (by simpa using World.news_of_block (cs := #[.int .u64 p]) (t := 63) (fr := (0, 0)) (heap_alloc_new W (.cells #[.int .u64 p] 63))) (by intro u hu; simp at hu; rw [hu]; rfl) (by simp only [maxLen]; omega) hl (by simp; omega)
  refine ⟨v1, w1, hrun, ?_, World.grownBy.trans (World.grownBy_alloc W _ _) hg⟩
  refine Kd.R_appended (okp := fun _ => False) h0 hr (p := p) (cs := [.int .u64 p]) rfl (fun _ h => h.elim) (fun _ _ => trivial) h2 (World.grownBy.trans (World.grownBy_alloc W _ _) hg) ?_
  rcases hat with hat | hat
  · exact .inl hat
  · exact .inr ⟨_, hat, by simp⟩
/-- An instruction's word. -/
def encV (op a b c e : Int) : Int := (inst_Encode.f op a b c e).getD 0
theorem enc_val (op a b c e : Int) (he : -2147483648 ≤ e ∧ e ≤ 2147483647) : inst_Encode.f op a b c e = some (encV op a b c e) := by
  unfold encV inst_Encode.f inst_Fit.f
  rw [if_pos he]
  simp only [Option.bind_some]
  split <;> rfl
/-- What is wrong with a line's number; 0: nothing. -/
def numE (m : Marks) (p : Int × S40) : Int := if p.2.f0.toList = ([] : List UInt8) then (if p.2.f2.toList = ([] : List UInt8) then 0 else (numR m p.1 p.2).2) else 0
def immP (m : Marks) (p : Int × S40) : Int := if p.2.f2.toList = ([] : List UInt8) then p.2.f1.f4 else (numR m p.1 p.2).1
def wordsP (m : Marks) (p : Int × S40) : List Int := if p.2.f0.toList = ([] : List UInt8) then [encV p.2.f1.f0 p.2.f1.f1 p.2.f1.f2 p.2.f1.f3 (immP m p)] else []
def outL (m : Marks) (l : List (Int × S40)) : List Int := l.flatMap (wordsP m)
theorem outL_snoc (m : Marks) (l : List (Int × S40)) (p : Int × S40) : outL m (l ++ [p]) = outL m l ++ wordsP m p := by simp [outL]
theorem outL_length (m : Marks) (l : List (Int × S40)) : (outL m l).length ≤ l.length := by
  induction l with
  | nil => simp [outL]
  | cons p r ih =>
    have : (wordsP m p).length ≤ 1 := by unfold wordsP; split <;> simp
    simp only [outL, List.flatMap_cons, List.length_append, List.length_cons] at *
    omega
/-- The line with an error, and the error. -/
def putR (m : Marks) : List (Int × S40) → Nat → Int × Int
  | [], _ => (0, 0)
  | p :: r, i => if numE m p = 0 then putR m r (i + 1) else ((i : Int), numE m p)
theorem putR_ok (m : Marks) {l : List (Int × S40)} (i : Nat) (h : ∀ p ∈ l, numE m p = 0) : putR m l i = (0, 0) := by
  induction l generalizing i with
  | nil => rfl
  | cons p r ih =>
    simp only [putR, if_pos (h p List.mem_cons_self)]
    exact ih _ (fun q hq => h q (List.mem_cons_of_mem _ hq))
theorem putR_bad (m : Marks) {a b : List (Int × S40)} {p : Int × S40} (i : Nat) (h : ∀ q ∈ a, numE m q = 0) (h0 : numE m p ≠ 0) : putR m (a ++ p :: b) i = (((i + a.length : Nat) : Int), numE m p) := by
  induction a generalizing i with
  | nil => simp [putR, h0]
  | cons q r ih =>
    simp only [List.cons_append, putR, if_pos (h q List.mem_cons_self)]
    rw [ih _ (fun z hz => h z (List.mem_cons_of_mem _ hz))]
    simp [Nat.add_assoc, Nat.add_comm 1]
theorem numR_bd (m : Marks) (i : Int) (x : S40) : -2147483648 ≤ (numR m i x).1 ∧ (numR m i x).1 ≤ 2147483647 := by
  unfold numR
  split
  · split
    · exact ⟨by decide, by decide⟩
    · constructor
      · show -2147483648 ≤ numN m i x; omega
      · show numN m i x ≤ 2147483647; omega
  · exact ⟨by decide, by decide⟩
theorem immP_bd (m : Marks) (p : Int × S40) (h : -2147483648 ≤ p.2.f1.f4 ∧ p.2.f1.f4 ≤ 2147483647) : -2147483648 ≤ immP m p ∧ immP m p ≤ 2147483647 := by
  unfold immP
  split
  · exact h
  · exact numR_bd m _ _
theorem RW_cells {n₀ : Nat} {W : World} {v : Value} {xs : List Int} (h : RW n₀ W v xs) (j : Nat) (o : Obj) (hj : some j = v.ownBlock) (ho : W.heap[j]? = some o) : o.isCells = true := by
  obtain ⟨cells, hc⟩ := Kd.R_typed h j hj.symm
  rw [hc] at ho
  cases ho
  rfl
theorem KeepT.row {n₀ : Nat} {R : Nat → Prop} {W w1 : World} {v : Value} {xs : List Int} (h : RW n₀ W v xs) (hg : W.grownBy w1 v.ownBlock) (hn : n₀ ≤ W.heap.size) : KeepT n₀ R W w1 :=
  KeepT.of_same ((Below.refl n₀ W).grown hg hn (fun k e => Kd.R_base h k e)) fun i cs t fr _ ht ho => (hg.block i (Array.getElem?_eq_some_iff.1 ho).1 (fun e => by
    obtain ⟨cells, hc⟩ := Kd.R_typed h i e.symm
    rw [hc] at ho
    cases ho
    exact ht rfl)).trans ho
theorem RW_own {X Y : World} {row : Option Nat} {n n₀ : Nat} {v : Value} {xs : List Int} (h : RW n₀ X v xs) (hg : X.grownBy Y row) (hr : ∀ r, row = some r → n ≤ r ∧ ∃ o : Obj, X.heap[r]? = some o ∧ o.isCells = false) : RW n₀ Y v xs :=
  Kd.R_mono (Kd.R_step (Kd.R_bound h) (fun k hk hlt => hg.block k hlt (fun e => by
    obtain ⟨_, _, _, q, _, cells, hc⟩ := hk
    obtain ⟨_, o, ho, hn⟩ := hr k e.symm
    rw [hc] at ho
    cases ho
    cases hn))) (fun _ _ => trivial)
theorem blk_farM {W : World} {i b j : Nat} {o : Obj} {u : Value} (h : W.heap[i]? = some o) (hne : i ≠ b) : (W.setCell ⟨b, j, none⟩ u).heap[i]? = some o := (Below.heap_setCell _ _ _ _ (by show i ≠ b; exact hne)).trans h
set_option maxRecDepth 100000 in
set_option maxHeartbeats 8000000 in
theorem put_any (n₀ Bp M : Nat) (A : Option Addr) (c : Nat) (xs : List S40) (m : Marks) (w0 w : World) (hr : Kd.C k40 w0 A xs.length xs) (hn0 : w0.heap.size = n₀) (hb : Below n₀ w0 w) (hwf : ∀ p ∈ placedL xs 0, wfP p) (hx40 : xs.length ≤ 1099511627776)
    (hp : w.heap[Bp]? = some (.cells #[.slice A xs.length c, .map (some M), .slice none 0 0] 60 (0, 0))) (hM : Mp.Is Mp.encS Mp.encN w M m) (hpn : n₀ ≤ Bp) (hMn : n₀ ≤ M) (hmk : ∀ k, 0 ≤ Mp.getL k 0 m ∧ Mp.getL k 0 m ≤ 1099511627776) :
    Calls Tryz.prog 23 #[.pointer (some ⟨Bp, 0, none⟩)] w fun e_ w' => e_ = .returned (.tuple #[.int .i64 (putR m (placedL xs 0) 0).1, .int .i64 (putR m (placedL xs 0) 0).2]) ∧ Below n₀ w w' ∧ w.heap.size ≤ w'.heap.size ∧ ∃ v, w'.heap[Bp]? = some (.cells #[.slice A xs.length c, .map (some M), v] 60 (0, 0)) ∧ ((putR m (placedL xs 0) 0).2 = 0 → RW n₀ w' v (outL m (placedL xs 0))) := by
  have hplaced := fun n W => (callsIn_wide (n := n)).2 (placed_calls A xs.length c W)
  have hs0 := hb.size
  have hMl := hM.lt
  have hpl : Bp < w.heap.size := (Array.getElem?_eq_some_iff.1 hp).1
  have hMB : M ≠ Bp := fun e => by subst e; obtain ⟨es, cl, h, _⟩ := hM; rw [hp] at h; cases h
  have hpc := blk_cell (blk_alloc (blk_alloc (blk_alloc (blk_alloc hp (.cells #[.pointer (some ⟨Bp, 0, none⟩)] 57)) (.cells #[.int .i64 0] 3)) (.cells #[.int .i64 0] 24)) (.cells #[.int .i64 (-1)] 3)) 0
  simp only [List.getElem?_toArray, List.getElem?_cons_zero] at hpc
  refine (callsIn_wide (n := 3)).1 ?_
  refine callsIn_of_wp_marks Tryz.func23 rfl trivial ?_ rfl
  simp only [Tryz.ntmps23, List.size_toArray, List.length_cons, List.length_nil, Nat.reduceAdd, Nat.reduceSub, Array.replicate_succ, Array.replicate_zero, List.push_toArray, List.append_toArray, List.nil_append, List.cons_append]
  gi_wp2_with (refine ⟨trivial, ?_⟩; gi_at_call 48; refine (hplaced _ _).mono ?_; rintro e_ w3 ⟨rfl, rfl⟩)
  obtain ⟨W3, hW3⟩ : ∃ W3, W3 = ((((w.alloc (.cells #[.pointer (some ⟨Bp, 0, none⟩)] 57)).alloc (.cells #[.int .i64 0] 3)).alloc (.cells #[.int .i64 0] 24)).alloc (.cells #[.int .i64 (-1)] 3)).alloc (.cells #[.slice A xs.length c] 23) := ⟨_, rfl⟩
  rw [← hW3]
  have hsz : W3.heap.size = w.heap.size + 5 := by rw [hW3]; simp
  have hB : Below w.heap.size w W3 := by rw [hW3]; exact below_alloc (below_alloc (below_alloc (below_alloc (below_alloc (Below.refl _ w) _) _) _) _) _
  have hb1 : Boxed W3 w.heap.size 57 (.pointer (some ⟨Bp, 0, none⟩)) := by rw [hW3]; exact blk_alloc (blk_alloc (blk_alloc (blk_alloc (blk_new1 _ _ _ rfl) _) _) _) _
  have hb2 : Boxed W3 (w.heap.size + 1) 3 (.int .i64 0) := by rw [hW3]; exact blk_alloc (blk_alloc (blk_alloc (blk_new1 _ _ _ (by simp)) _) _) _
  have hb3 : Boxed W3 (w.heap.size + 2) 24 (.int .i64 0) := by rw [hW3]; exact blk_alloc (blk_alloc (blk_new1 _ _ _ (by simp)) _) _
  have hb4 : Boxed W3 (w.heap.size + 3) 3 (.int .i64 (-1)) := by rw [hW3]; exact blk_alloc (blk_new1 _ _ _ (by simp)) _
  have hb5 : W3.heap[w.heap.size + 4]? = some (.cells #[.slice A xs.length c] 23 (0, 0)) := by rw [hW3]; exact blk_new1 _ _ _ (by simp)
  have hB3 : Below n₀ w0 W3 := hb.trans (hB.mono (by omega))
  have hp3 : W3.heap[Bp]? = some (.cells #[.slice A xs.length c, .map (some M), .slice none 0 0] 60 (0, 0)) := (hB.block Bp hpl).trans hp
  have hM3 : Mp.Is Mp.encS Mp.encN W3 M m := hM.step (hB.block M hMl)
  have hBn : Below n₀ w W3 := hB.mono (by omega)
  have hseq := placed_stopsG wfP 2 (by decide) (w.heap.size + 4) c n₀ (fun i => i = w.heap.size + 3 ∨ i = Bp) A xs w0 W3 hr hn0 hB3 hwf hb5 (by omega) (fun i h => by omega)
  clear hW3 hplaced hb5 hpc hp hM hb
  refine wpIn_rangeFunc_ownH rfl (by decide) (gf := 67) (lb := #[.pointer (some ⟨w.heap.size + 4, 0, none⟩)]) rfl trivial (enters_of Tryz.func67 (by kernel_rfl) rfl) hseq (fun h k => KeepT.trans h k) (KeepT.putObj (by omega)) (Below.refl _ _) (fun _ => rfl)
    (fun pre W => ((∀ p ∈ vals pre, numE m p = 0) ∧ Mp.Is Mp.encS Mp.encN W M m ∧ Boxed W w.heap.size 57 (.pointer (some ⟨Bp, 0, none⟩)) ∧ Boxed W (w.heap.size + 1) 3 (.int .i64 0) ∧ Boxed W (w.heap.size + 2) 24 (.int .i64 0) ∧ Boxed W (w.heap.size + 3) 3 (.int .i64 ((pre.length : Int) - 1)) ∧ (∃ v, W.heap[Bp]? = some (.cells #[.slice A xs.length c, .map (some M), v] 60 (0, 0)) ∧ RW n₀ W v (outL m (vals pre))) ∧ w.heap.size + 5 ≤ W.heap.size) ∧ Below n₀ w W)
    (fun cd pre W => (cd = .ret ∧ (∃ (q : List El) (z : El), pre = q ++ [z] ∧ (∀ p ∈ vals q, numE m p = 0) ∧ numE m z.1 ≠ 0 ∧ Boxed W (w.heap.size + 1) 3 (.int .i64 q.length) ∧ Boxed W (w.heap.size + 2) 24 (.int .i64 (numE m z.1))) ∧ (∃ v, W.heap[Bp]? = some (.cells #[.slice A xs.length c, .map (some M), v] 60 (0, 0))) ∧ w.heap.size + 5 ≤ W.heap.size) ∧ Below n₀ w W)
    ?own ?ownx ?start
    (fun x a' W => ∃ q : Nat, a' = { tmps := #[.pointer (some ⟨Bp, 0, none⟩), .pointer (some ⟨w.heap.size, 0, none⟩), .pointer (some ⟨w.heap.size + 1, 0, none⟩), .pointer (some ⟨w.heap.size + 2, 0, none⟩), .pointer (some ⟨w.heap.size + 3, 0, none⟩), .int .i64 x.1.1, .pointer (some ⟨q, 0, none⟩), undef, undef, .pointer (some ⟨Bp, 0, none⟩), .pointer (some ⟨Bp, 0, none⟩), .pointer (some ⟨Bp, 0, none⟩), .slice A xs.length c, .func (.func 67) #[] #[.pointer (some ⟨w.heap.size + 4, 0, none⟩)], .int .i64 x.1.1, .agg (lineC x.1.2), undef, undef, undef, undef, undef, undef, undef, undef, undef, undef, undef, undef, undef, undef, undef, undef, undef, undef, undef, undef, undef, undef, undef, undef, undef, undef, undef, undef, undef, undef, undef, undef, undef, undef], defers := [] } ∧ W.heap[q]? = some (.cells (lineC x.1.2) 40 (0, 0)) ∧ w.heap.size + 5 ≤ q)
    (fun x a' => Own.from (fun s X Y row hs hg hr => (let ⟨q, h1, h2, h3⟩ := hs; ⟨q, h1, blk_own (β := Unit) q _ _ () X Y row h2 hg hr, h3⟩)) _) ?assign ?body ?done ?stop
  case own =>
    exact OwnFrom.and (fun s X Y row hs hg hr => (let ⟨h1, h2, h3, h4, h5, h6, ⟨v, h7, h8⟩, h9⟩ := hs; ⟨h1, own_map hg hr (by omega) h2, own_keep hg hr (by omega) h3, own_keep hg hr (by omega) h4, own_keep hg hr (by omega) h5, own_keep hg hr (by omega) h6, ⟨v, own_keep hg hr (by omega) h7, RW_own h8 hg hr⟩, Nat.le_trans h9 hg.size⟩)) (ownFrom_below (by omega) (by omega))
  case ownx =>
    exact fun cd => OwnFrom.and (fun s X Y row hs hg hr => (let ⟨h0, ⟨q, z, h1, h2, h3, h5, h6⟩, ⟨v, h7⟩, h8⟩ := hs; ⟨h0, ⟨q, z, h1, h2, h3, own_keep hg hr (by omega) h5, own_keep hg hr (by omega) h6⟩, ⟨v, own_keep hg hr (by omega) h7⟩, Nat.le_trans h8 hg.size⟩)) (ownFrom_below (by omega) (by omega))
  case start => exact ⟨⟨by simp [vals], hM3, hb1, hb2, hb3, hb4, ⟨_, hp3, Kd.R_nil _ _ _ _ _⟩, by omega⟩, hBn⟩
  case assign =>
    intro l pre x W K hI hK
    obtain ⟨⟨hm1, hm2, hv1, hv2, hv3, hv4, ⟨v, hvp, hvr⟩, hsW⟩, hBW⟩ := hI
    unfold lineC
    gi_wp2
    exact hK _ _ (KeepsFrom.of_grownBy (World.grownBy_alloc W _ none) (fun j e => by cases e)) (KeepT.of_below (below_alloc (Below.refl _ _) _) (by omega)) ⟨⟨hm1, hm2.below (below_alloc (Below.refl _ _) _), blk_alloc hv1 _, blk_alloc hv2 _, blk_alloc hv3 _, blk_alloc hv4 _, ⟨v, blk_alloc hvp _, Kd.R_alloc hvr _⟩, by simp; omega⟩, hBW.alloc (by omega) _⟩ ⟨W.heap.size, rfl, blk_new W _, by omega⟩
  case body =>
    rintro lp pre x a' W hl hex ⟨⟨hm1, hm2, hv1, hv2, hv3, hv4, ⟨v, hvp, hvr⟩, hsW⟩, hBW⟩ ⟨q, rfl, hq, hqn⟩ hlen
    obtain ⟨x, hx⟩ := x
    have hxx := hx.2
    have hxi := hx.1
    replace hq : W.heap[q]? = some (.cells #[.string x.2.f0, .int .i64 x.2.f1.f0, .int .i64 x.2.f1.f1, .int .i64 x.2.f1.f2, .int .i64 x.2.f1.f3, .int .i32 x.2.f1.f4, .string x.2.f2] 40 (0, 0)) := hq
    dsimp only
    have hmx : Tryz.prog.follows .mixedOrders = true := by kernel_rfl
    have hp40 : pre.length < 1099511627776 := by omega
    have hq0 : W.cell? ⟨q, 0, none⟩ = some (.string x.2.f0) := (blk_cell hq 0).trans rfl
    have hq6 : W.cell? ⟨q, 6, none⟩ = some (.string x.2.f2) := (blk_cell hq 6).trans rfl
    have hli : ∃ li : Int, li = (pre.length : Int) - 1 ∧ -1 ≤ li ∧ li ≤ 1099511627776 := ⟨_, rfl, by omega, by omega⟩
    obtain ⟨li, hl1, hl2, hl3⟩ := hli
    rw [← hl1] at hv4
    have hc4 := hv4.cell
    have hf4 := hv4.frozen
    have hql : q < W.heap.size := (Array.getElem?_eq_some_iff.1 hq).1
    have HL := Lib.hid hl1
    -- the world behind 'i++'
    obtain ⟨W1, hW1⟩ : ∃ W1, W1 = W.setCell ⟨w.heap.size + 3, 0, none⟩ (.int .i64 (li + 1)) := ⟨_, rfl⟩
    have g1 : Boxed W1 w.heap.size 57 (.pointer (some ⟨Bp, 0, none⟩)) := by rw [hW1]; exact hv1.other (by omega) _
    have g2 : Boxed W1 (w.heap.size + 1) 3 (.int .i64 0) := by rw [hW1]; exact hv2.other (by omega) _
    have g3 : Boxed W1 (w.heap.size + 2) 24 (.int .i64 0) := by rw [hW1]; exact hv3.other (by omega) _
    have g4 : Boxed W1 (w.heap.size + 3) 3 (.int .i64 (li + 1)) := by rw [hW1]; exact hv4.set _
    have gp : W1.heap[Bp]? = some (.cells #[.slice A xs.length c, .map (some M), v] 60 (0, 0)) := by rw [hW1]; exact blk_farM hvp (by omega)
    have gq : W1.heap[q]? = some (.cells #[.string x.2.f0, .int .i64 x.2.f1.f0, .int .i64 x.2.f1.f1, .int .i64 x.2.f1.f2, .int .i64 x.2.f1.f3, .int .i32 x.2.f1.f4, .string x.2.f2] 40 (0, 0)) := by rw [hW1]; exact blk_farM hq (by omega)
    have gM : Mp.Is Mp.encS Mp.encN W1 M m := by rw [hW1]; exact hm2.step (Below.heap_setCell _ _ _ _ (by dsimp only; omega))
    have gR : RW n₀ W1 v (outL m (vals pre)) := by rw [hW1]; exact Kd.R_set hvr (t := 3) (cells := #[.int .i64 li]) hv4 (by intro q hq; simp [Kd.int, Kd.scalar] at hq; omega) 0 _
    have gB : Below n₀ w W1 := by rw [hW1]; exact hBW.setCell (p := ⟨w.heap.size + 3, 0, none⟩) (by dsimp only; omega) _
    have gK : KeepsFrom W3.heap.size W W1 := by rw [hW1]; exact (KeepsOthers.setCell _ _ _).from _
    have gT : KeepT n₀ (fun i => i = w.heap.size + 3 ∨ i = Bp) W W1 := by rw [hW1]; exact KeepT.set _ _ _ _ (by omega) (.inl rfl)
    have gS : W1.heap.size = W.heap.size := by rw [hW1]; simp
    have HW1 := Lib.hid hW1
    have hst : numE m x = (if x.2.f0.toList = ([] : List UInt8) then (if x.2.f2.toList = ([] : List UInt8) then 0 else (numR m x.1 x.2).2) else 0) := rfl
    have hwo : wordsP m x = (if x.2.f0.toList = ([] : List UInt8) then [encV x.2.f1.f0 x.2.f1.f1 x.2.f1.f2 x.2.f1.f3 (immP m x)] else []) := rfl
    have him : immP m x = (if x.2.f2.toList = ([] : List UInt8) then x.2.f1.f4 else (numR m x.1 x.2).1) := rfl
    have hsn := outL_snoc m (vals pre) x
    have hol := outL_length m (vals pre)
    have hvl : (vals pre).length = pre.length := by simp [vals]
    have HST := Lib.hid hst
    have HWO := Lib.hid hwo
    have HIM := Lib.hid him
    have HSN := Lib.hid hsn
    have HM1 := Lib.hid hm1
    have G1 := Lib.hid g1
    have G2 := Lib.hid g2
    have G3 := Lib.hid g3
    have G4 := Lib.hid g4
    have GP := Lib.hid gp
    have GQ := Lib.hid gq
    have GM := Lib.hid gM
    have GR := Lib.hid gR
    have GB := Lib.hid gB
    have GK := Lib.hid gK
    have GT := Lib.hid gT
    clear g1 g2 g3 g4 gp gq gM gR gB gK gT hW1 hst hwo him hsn hm1 hm2 hv1 hv2 hv3 hv4 hvp hvr hBW hq hl1 hseq hb1 hb2 hb3 hb4 hp3 hM3 hB3 hBn hB hex hr hwf
    by_cases hmk0 : x.2.f0.toList = []
    · have hmk2 : x.2.f0.toList.isEmpty = true := by rw [hmk0]; rfl
      have HWO2 : Hid (wordsP m x = [encV x.2.f1.f0 x.2.f1.f1 x.2.f1.f2 x.2.f1.f3 (immP m x)]) := Lib.hid (by rw [HWO.out, if_pos hmk0])
      have HST2 : Hid (numE m x = (if x.2.f2.toList = ([] : List UInt8) then 0 else (numR m x.1 x.2).2)) := Lib.hid (by rw [HST.out, if_pos hmk0])
      unfold lineC
      gi_upto_if 23 with (fail)
      rw [← HW1.out]
      have hnum := fun n => CallsIn.inRound lp ((callsIn_wide (n := n)).2 (number_any Bp M (.slice A xs.length c) v m x.1 x.2 W1 GP.out GM.out hxi (hmk x.2.f2) hxx.1))
      have c1 := G1.out.cell
      have c4 := G4.out.cell
      have c2 := G2.out.cell
      have f2 := G2.out.frozen
      have c3 := G3.out.cell
      have f3 := G3.out.frozen
      have d0 : W1.cell? ⟨q, 0, none⟩ = some (.string x.2.f0) := (blk_cell GQ.out 0).trans rfl
      have d1 : W1.cell? ⟨q, 1, none⟩ = some (.int .i64 x.2.f1.f0) := (blk_cell GQ.out 1).trans rfl
      have d2 : W1.cell? ⟨q, 2, none⟩ = some (.int .i64 x.2.f1.f1) := (blk_cell GQ.out 2).trans rfl
      have d3 : W1.cell? ⟨q, 3, none⟩ = some (.int .i64 x.2.f1.f2) := (blk_cell GQ.out 3).trans rfl
      have d4 : W1.cell? ⟨q, 4, none⟩ = some (.int .i64 x.2.f1.f3) := (blk_cell GQ.out 4).trans rfl
      have d5 : W1.cell? ⟨q, 5, none⟩ = some (.int .i32 x.2.f1.f4) := (blk_cell GQ.out 5).trans rfl
      have d6 : W1.cell? ⟨q, 6, none⟩ = some (.string x.2.f2) := (blk_cell GQ.out 6).trans rfl
      clear hq0 hq6 hc4 hf4
      generalize hbt : (!x.2.f2.toList.isEmpty) = bt
      have HBT := Lib.hid hbt
      clear hbt
      gi_cut [] from 24 (fun wx => wx.heap[q]? = some (.cells #[.string x.2.f0, .int .i64 x.2.f1.f0, .int .i64 x.2.f1.f1, .int .i64 x.2.f1.f2, .int .i64 x.2.f1.f3, .int .i32 (immP m x), .string x.2.f2] 40 (0, 0)) ∧ Below n₀ W1 wx ∧ W1.heap.size ≤ wx.heap.size ∧ numE m x = 0 ∧ (∀ k, k < W1.heap.size → k ≠ q → wx.heap[k]? = W1.heap[k]?) ∧ KeepsFrom W3.heap.size W1 wx ∧ KeepT n₀ (fun i => i = w.heap.size + 3 ∨ i = Bp) W1 wx)
      case first =>
        by_cases ht : x.2.f2.toList = []
        · have ht2 : x.2.f2.toList.isEmpty = true := by rw [ht]; rfl
          have HI2 : Hid (immP m x = x.2.f1.f4) := Lib.hid (by rw [HIM.out, if_pos ht])
          have HE2 : Hid (numE m x = 0) := Lib.hid (by rw [HST2.out, if_pos ht])
          clear hnum
          obtain rfl : bt = false := by rw [← HBT.out, ht2]; rfl
          gi_wp2_with fail
          gi_meet
          case rel => exact ⟨by rw [HI2.out]; exact GQ.out, Below.refl _ _, Nat.le_refl _, HE2.out, fun _ _ _ => rfl, KeepsFrom.refl _ _, KeepT.refl _ _ _⟩
        · have ht2 : x.2.f2.toList.isEmpty = false := by cases e : x.2.f2.toList with | nil => exact absurd e ht | cons a b => rfl
          have HI2 : Hid (immP m x = (numR m x.1 x.2).1) := Lib.hid (by rw [HIM.out, if_neg ht])
          have HE2 : Hid (numE m x = (numR m x.1 x.2).2) := Lib.hid (by rw [HST2.out, if_neg ht])
          have hbd := numR_bd m x.1 x.2
          unfold lineC at hnum
          generalize (numR m x.1 x.2).1 = nn at *
          generalize (numR m x.1 x.2).2 = ee at *
          obtain ⟨hb0, hb1⟩ := hbd
          obtain rfl : bt = true := by rw [← HBT.out, ht2]; rfl
          rcases hee : (ee == 0) with _ | _
          · have hne : ee ≠ 0 := by simpa using hee
            have HNE := Lib.hid hne
            clear hne
            gi_wp2_with (refine ⟨trivial, ?_⟩; gi_at_call 49; refine (hnum _).mono ?_; rintro e_ w2 ⟨rfl, hb2⟩; have hs2 := hb2.size; have k4 : w2.cell? ⟨w.heap.size + 3, 0, none⟩ = some (.int .i64 (li + 1)) := (boxB G4.out hb2).cell; have k2 := (boxB G2.out hb2).cell; have k3 := (boxB G3.out hb2).cell; have kf2 := (boxB G2.out hb2).frozen; have kf3 := (boxB G3.out hb2).frozen; have kq := blk_below GQ.out hb2; have k5 : w2.cell? ⟨q, 5, none⟩ = some (.int .i32 x.2.f1.f4) := (blk_cell kq 5).trans rfl; have kf5 := blk_frozen kq 5)
            refine ⟨((GK.out.trans (KeepsFrom.of_grownBy (grown_of_below hb2 none) (fun j e => by cases e))).trans ((KeepsOthers.setCell _ _ _).from _)).trans ((KeepsOthers.setCell _ _ _).from _), ⟨rfl, ⟨pre, ⟨x, hx⟩, rfl, HM1.out, (by dsimp only; rw [HE2.out]; exact HNE.out), ?_, (by dsimp only; rw [HE2.out]; exact ((boxB G3.out hb2).other (by omega) _).set _)⟩, ⟨v, ((Below.heap_setCell _ _ _ _ (by dsimp only; omega)).trans (Below.heap_setCell _ _ _ _ (by dsimp only; omega))).trans (blk_below GP.out hb2)⟩, by simp; omega⟩, ((GB.out.trans (hb2.mono (by omega))).setCell (p := ⟨w.heap.size + 1, 0, none⟩) (by dsimp only; omega) _).setCell (p := ⟨w.heap.size + 2, 0, none⟩) (by dsimp only; omega) _⟩
            have := ((boxB G2.out hb2).set (.int .i64 (li + 1))).other (B' := w.heap.size + 2) (by omega) (.int .i64 ee)
            have e : ((pre.length : Nat) : Int) = li + 1 := by rw [HL.out]; omega
            rw [e]
            exact this
          · have hne : ee = 0 := by simpa using hee
            have HNE := Lib.hid hne
            clear hne
            gi_wp2_with (refine ⟨trivial, ?_⟩; gi_at_call 49; refine (hnum _).mono ?_; rintro e_ w2 ⟨rfl, hb2⟩; have hs2 := hb2.size; have k4 : w2.cell? ⟨w.heap.size + 3, 0, none⟩ = some (.int .i64 (li + 1)) := (boxB G4.out hb2).cell; have k2 := (boxB G2.out hb2).cell; have k3 := (boxB G3.out hb2).cell; have kf2 := (boxB G2.out hb2).frozen; have kf3 := (boxB G3.out hb2).frozen; have kq := blk_below GQ.out hb2; have k5 : w2.cell? ⟨q, 5, none⟩ = some (.int .i32 x.2.f1.f4) := (blk_cell kq 5).trans rfl; have kf5 := blk_frozen kq 5)
            gi_meet
            case rel =>
              have kq2 := blk_put kq 5 (.int .i32 nn) rfl
              refine ⟨?_, (hb2.mono (by omega)).setCell (p := ⟨q, 5, none⟩) (by dsimp only; omega) _, by simp; omega, by rw [HE2.out]; exact HNE.out, fun k hk hkq => (Below.heap_setCell _ _ _ _ hkq).trans (hb2.block k hk), (KeepsFrom.of_grownBy (grown_of_below hb2 none) (fun j e => by cases e)).trans ((KeepsOthers.setCell _ _ _).from _), (KeepT.of_below hb2 (by omega)).trans (KeepT.setLine _ _ 5 _ (by omega) kq (by decide) (by simp))⟩
              rw [HI2.out]
              simpa using kq2
      case rest =>
        obtain ⟨hqc, hBc, hSc, hE0, hkc, hKc, hTc⟩ := hcut
        have hqW1 : q < W1.heap.size := by omega
        have g1 : Boxed wc w.heap.size 57 (.pointer (some ⟨Bp, 0, none⟩)) := (hkc _ (by omega) (by omega)).trans G1.out
        have g2 : Boxed wc (w.heap.size + 1) 3 (.int .i64 0) := (hkc _ (by omega) (by omega)).trans G2.out
        have g3 : Boxed wc (w.heap.size + 2) 24 (.int .i64 0) := (hkc _ (by omega) (by omega)).trans G3.out
        have g4 : Boxed wc (w.heap.size + 3) 3 (.int .i64 (li + 1)) := (hkc _ (by omega) (by omega)).trans G4.out
        have gp : wc.heap[Bp]? = some (.cells #[.slice A xs.length c, .map (some M), v] 60 (0, 0)) := (hkc _ (by omega) (by omega)).trans GP.out
        have gM : Mp.Is Mp.encS Mp.encN wc M m := GM.out.step (hkc _ (by omega) (by omega))
        have gR : RW n₀ wc v (outL m (vals pre)) := Kd.R_mono (Kd.R_step (Kd.R_types GR.out GQ.out (by intro z hz; simp [Kd.int, Kd.scalar] at hz; omega)) (fun k hk hlt => hkc k hlt hk.2)) (fun _ _ => trivial)
        have gB : Below n₀ w wc := GB.out.trans hBc
        have gK : KeepsFrom W3.heap.size W wc := GK.out.trans hKc
        have gT : KeepT n₀ (fun i => i = w.heap.size + 3 ∨ i = Bp) W wc := GT.out.trans hTc
        have hib := immP_bd m x hxx.1
        have henc := enc_val x.2.f1.f0 x.2.f1.f1 x.2.f1.f2 x.2.f1.f3 (immP m x) hib
        have hcall := fun n W => CallsIn.inRound lp ((callsIn_wide (n := n)).2 (inst_Encode.calls _ _ _ _ _ _ W henc))
        have e1 : wc.drew.cell? ⟨w.heap.size, 0, none⟩ = some (.pointer (some ⟨Bp, 0, none⟩)) := g1.cell
        have e2 : wc.drew.cell? ⟨Bp, 2, none⟩ = some v := (blk_cell gp 2).trans rfl
        have e3 : wc.drew.cell? ⟨q, 1, none⟩ = some (.int .i64 x.2.f1.f0) := (blk_cell hqc 1).trans rfl
        have e4 : wc.drew.cell? ⟨q, 2, none⟩ = some (.int .i64 x.2.f1.f1) := (blk_cell hqc 2).trans rfl
        have e5 : wc.drew.cell? ⟨q, 3, none⟩ = some (.int .i64 x.2.f1.f2) := (blk_cell hqc 3).trans rfl
        have e6 : wc.drew.cell? ⟨q, 4, none⟩ = some (.int .i64 x.2.f1.f3) := (blk_cell hqc 4).trans rfl
        have e7 : wc.drew.cell? ⟨q, 5, none⟩ = some (.int .i32 (immP m x)) := (blk_cell hqc 5).trans rfl
        have hS := And.intro e1 (And.intro e2 (And.intro e3 (And.intro e4 (And.intro e5 (And.intro e6 e7)))))
        clear hnum c1 c2 c3 c4 f2 f3 d0 d1 d2 d3 d4 d5 d6
        gi_wp2
        refine Rh.start (fun wx => wx.cell? ⟨w.heap.size, 0, none⟩ = some (.pointer (some ⟨Bp, 0, none⟩)) ∧ wx.cell? ⟨Bp, 2, none⟩ = some v ∧ wx.cell? ⟨q, 1, none⟩ = some (.int .i64 x.2.f1.f0) ∧ wx.cell? ⟨q, 2, none⟩ = some (.int .i64 x.2.f1.f1) ∧ wx.cell? ⟨q, 3, none⟩ = some (.int .i64 x.2.f1.f2) ∧ wx.cell? ⟨q, 4, none⟩ = some (.int .i64 x.2.f1.f3) ∧ wx.cell? ⟨q, 5, none⟩ = some (.int .i32 (immP m x))) (fun i => i == 12) hmx ?_
        refine Rh.take (i := 0) (v := ?_) (Rh.noDefer_of (by kernel_rfl)) (Rh.last_of (by kernel_rfl)) rfl (by kernel_rfl) (by kernel_rfl) (by kernel_rfl) (fun _ _ _ h => h) hS rfl (fun _ => rfl) ?hz0 38 rfl ?mone0
        case hz0 => (rintro wx ⟨h1, h2, h3, h4, h5, h6, h7⟩; go_simp; first | done | with_reducible rfl)
        simp only [Act.put, List.setIfInBounds_toArray, List.set_cons_zero, List.set_cons_succ]
        refine Rh.take (i := 1) (v := ?_) (Rh.noDefer_of (by kernel_rfl)) (Rh.last_of (by kernel_rfl)) rfl (by kernel_rfl) (by kernel_rfl) (by kernel_rfl) (fun _ _ _ h => h) hS rfl (fun _ => rfl) ?hz1 39 rfl ?mone1
        case hz1 => (rintro wx ⟨h1, h2, h3, h4, h5, h6, h7⟩; go_simp; first | done | with_reducible rfl)
        simp only [Act.put, List.setIfInBounds_toArray, List.set_cons_zero, List.set_cons_succ]
        refine Rh.take (i := 2) (v := ?_) (Rh.noDefer_of (by kernel_rfl)) (Rh.last_of (by kernel_rfl)) rfl (by kernel_rfl) (by kernel_rfl) (by kernel_rfl) (fun _ _ _ h => h) hS rfl (fun _ => rfl) ?hz2 40 rfl ?mone2
        case hz2 => (rintro wx ⟨h1, h2, h3, h4, h5, h6, h7⟩; go_simp; first | done | with_reducible rfl)
        simp only [Act.put, List.setIfInBounds_toArray, List.set_cons_zero, List.set_cons_succ]
        refine Rh.take (i := 3) (v := ?_) (Rh.noDefer_of (by kernel_rfl)) (Rh.last_of (by kernel_rfl)) rfl (by kernel_rfl) (by kernel_rfl) (by kernel_rfl) (fun _ _ _ h => h) hS rfl (fun _ => rfl) ?hz3 41 rfl ?mone3
        case hz3 => (rintro wx ⟨h1, h2, h3, h4, h5, h6, h7⟩; go_simp; first | done | with_reducible rfl)
        simp only [Act.put, List.setIfInBounds_toArray, List.set_cons_zero, List.set_cons_succ]
        refine Rh.take (i := 4) (v := ?_) (Rh.noDefer_of (by kernel_rfl)) (Rh.last_of (by kernel_rfl)) rfl (by kernel_rfl) (by kernel_rfl) (by kernel_rfl) (fun _ _ _ h => h) hS rfl (fun _ => rfl) ?hz4 42 rfl ?mone4
        case hz4 => (rintro wx ⟨h1, h2, h3, h4, h5, h6, h7⟩; go_simp; first | done | with_reducible rfl)
        simp only [Act.put, List.setIfInBounds_toArray, List.set_cons_zero, List.set_cons_succ]
        refine Rh.take (i := 5) (v := ?_) (Rh.noDefer_of (by kernel_rfl)) (Rh.last_of (by kernel_rfl)) rfl (by kernel_rfl) (by kernel_rfl) (by kernel_rfl) (fun _ _ _ h => h) hS rfl (fun _ => rfl) ?hz5 43 rfl ?mone5
        case hz5 => (rintro wx ⟨h1, h2, h3, h4, h5, h6, h7⟩; go_simp; first | done | with_reducible rfl)
        simp only [Act.put, List.setIfInBounds_toArray, List.set_cons_zero, List.set_cons_succ]
        refine Rh.take (i := 6) (v := ?_) (Rh.noDefer_of (by kernel_rfl)) (Rh.last_of (by kernel_rfl)) rfl (by kernel_rfl) (by kernel_rfl) (by kernel_rfl) (fun _ _ _ h => h) hS rfl (fun _ => rfl) ?hz6 44 rfl ?mone6
        case hz6 => (rintro wx ⟨h1, h2, h3, h4, h5, h6, h7⟩; go_simp; first | done | with_reducible rfl)
        simp only [Act.put, List.setIfInBounds_toArray, List.set_cons_zero, List.set_cons_succ]
        refine Rh.one (i := 7) rfl (by kernel_rfl) rfl ?_
        go_simp
        refine ⟨trivial, ?_⟩
        gi_at_call 50
        refine (hcall _ _).mono ?_
        rintro e_ w2 ⟨rfl, hb2⟩
        have hb3 : Below wc.heap.size wc w2 := (below_drew1 (Below.refl _ wc)).trans hb2
        have k1 := boxB g1 hb3
        have kp := blk_below gp hb3
        have kq := blk_below hqc hb3
        have kR : RW n₀ w2 v (outL m (vals pre)) := Kd.R_below gR hb3
        have hs3 := hb3.size
        have k2 := boxB g2 hb3
        have k3 := boxB g3 hb3
        have k4 := boxB g4 hb3
        have kM : Mp.Is Mp.encS Mp.encN w2 M m := gM.below hb3
        have kB : Below n₀ w w2 := gB.trans (hb3.mono (by omega))
        have kK : KeepsFrom W3.heap.size W w2 := gK.trans (KeepsFrom.of_grownBy (grown_of_below hb3 none) (fun j e => by cases e))
        have kT : KeepT n₀ (fun i => i = w.heap.size + 3 ∨ i = Bp) W w2 := gT.trans (KeepT.of_below hb3 (by omega))
        refine ⟨⟨(k1.cell : w2.cell? _ = _), (blk_cell kp 2).trans rfl, (blk_cell kq 1).trans rfl, (blk_cell kq 2).trans rfl, (blk_cell kq 3).trans rfl, (blk_cell kq 4).trans rfl, (blk_cell kq 5).trans rfl⟩, ?_⟩
        clear hS e1 e2 e3 e4 e5 e6 e7 g1 g2 g3 g4 gp gM gR gB gK gT hqc hBc hkc hKc hTc hb2 hb3
        generalize encV x.2.f1.f0 x.2.f1.f1 x.2.f1.f2 x.2.f1.f3 (immP m x) = word at *
        obtain ⟨v1, w4, hap, hR4, hg4⟩ := appendW_run (p := word) kR (by omega) (by omega) 34
        (try simp only [Act.put, List.setIfInBounds_toArray, List.set_cons_zero, List.set_cons_succ])
        refine Rh.one (i := 8) rfl (by kernel_rfl) rfl ?_
        go_simp
        refine ⟨⟨(blk_cell (blk_alloc k1 _) 0).trans rfl, (blk_cell (blk_alloc kp _) 2).trans rfl, (blk_cell (blk_alloc kq _) 1).trans rfl, (blk_cell (blk_alloc kq _) 2).trans rfl, (blk_cell (blk_alloc kq _) 3).trans rfl, (blk_cell (blk_alloc kq _) 4).trans rfl, (blk_cell (blk_alloc kq _) 5).trans rfl⟩, ?_⟩
        refine Rh.one (i := 9) rfl (by kernel_rfl) rfl ?_
        refine Rh.app (.tmp 42) (.tmp 46) 34 rfl _ _ rfl rfl hap 47 rfl ?_
        simp only [Act.put, List.setIfInBounds_toArray, List.set_cons_zero, List.set_cons_succ]
        have r1 := (hg4.block _ (Array.getElem?_eq_some_iff.1 k1).1 (Kd.R_ne kR k1 (by decide))).trans k1
        have r2 := (hg4.block _ (Array.getElem?_eq_some_iff.1 k2).1 (Kd.R_ne kR k2 (by decide))).trans k2
        have r3 := (hg4.block _ (Array.getElem?_eq_some_iff.1 k3).1 (Kd.R_ne kR k3 (by decide))).trans k3
        have r4 := (hg4.block _ (Array.getElem?_eq_some_iff.1 k4).1 (Kd.R_ne kR k4 (by decide))).trans k4
        have rp := (hg4.block _ (Array.getElem?_eq_some_iff.1 kp).1 (Kd.R_ne kR kp (by decide))).trans kp
        have rq := (hg4.block _ (Array.getElem?_eq_some_iff.1 kq).1 (Kd.R_ne kR kq (by decide))).trans kq
        have hS2 := And.intro ((blk_cell r1 0).trans rfl : w4.cell? ⟨w.heap.size, 0, none⟩ = some (.pointer (some ⟨Bp, 0, none⟩))) (And.intro ((blk_cell rp 2).trans rfl : w4.cell? ⟨Bp, 2, none⟩ = some v) (And.intro ((blk_cell rq 1).trans rfl : w4.cell? ⟨q, 1, none⟩ = some (.int .i64 x.2.f1.f0)) (And.intro ((blk_cell rq 2).trans rfl : w4.cell? ⟨q, 2, none⟩ = some (.int .i64 x.2.f1.f1)) (And.intro ((blk_cell rq 3).trans rfl : w4.cell? ⟨q, 3, none⟩ = some (.int .i64 x.2.f1.f2)) (And.intro ((blk_cell rq 4).trans rfl : w4.cell? ⟨q, 4, none⟩ = some (.int .i64 x.2.f1.f3)) ((blk_cell rq 5).trans rfl : w4.cell? ⟨q, 5, none⟩ = some (.int .i32 (immP m x))))))))
        refine ⟨fun _ => hS2, ?_⟩
        refine Rh.one (i := 10) rfl (by kernel_rfl) rfl ?_
        go_simp
        refine Rh.one (i := 11) rfl (by kernel_rfl) rfl ?_
        go_simp
        obtain ⟨Ax, cx, rfl⟩ := Kd.R_slice hR4
        have z2 : w4.cell? ⟨Bp, 2, none⟩ = some v := (blk_cell rp 2).trans rfl
        have zf2 := blk_frozen rp 2
        refine Rh.one (i := 12) rfl (by kernel_rfl) rfl ?_
        go_simp
        refine Rh.done (by kernel_rfl) ?_ _
        have rM : Mp.Is Mp.encS Mp.encN w4 M m := kM.step (hg4.block M kM.lt (fun e => by
          obtain ⟨cells, hc⟩ := Kd.R_typed kR M e.symm
          obtain ⟨es, cl, hm', _⟩ := kM
          rw [hc] at hm'
          cases hm'))
        have rB : Below n₀ w w4 := kB.grown hg4 (by omega) (fun k e => Kd.R_base kR k e)
        have rK : KeepsFrom W3.heap.size W w4 := kK.trans ((KeepsOthers.of_grownBy hg4 (fun j o e ho => RW_cells kR j o e.symm ho)).from _)
        have rT : KeepT n₀ (fun i => i = w.heap.size + 3 ∨ i = Bp) W w4 := kT.trans (KeepT.row kR hg4 (by omega))
        have rS := hg4.size
        have R1 := Lib.hid r1
        have R2 := Lib.hid r2
        have R3 := Lib.hid r3
        have R4 := Lib.hid r4
        have RP := Lib.hid rp
        have RM := Lib.hid rM
        have RB := Lib.hid rB
        have RK := Lib.hid rK
        have RT := Lib.hid rT
        have RR := Lib.hid hR4
        have HE0 := Lib.hid hE0
        clear r1 r2 r3 r4 rp rq rM rB rK rT hR4 kR kM kB kK kT k1 k2 k3 k4 kp kq hS2 z2 zf2 hap hg4 hE0
        gi_wp2
        refine ⟨RK.out.trans ((KeepsOthers.setCell _ _ _).from _), RT.out.trans (KeepT.set _ _ _ _ hpn (.inr rfl)), ⟨?_, RM.out.step (Below.heap_setCell _ _ _ _ hMB), blk_farM R1.out (by omega), blk_farM R2.out (by omega), blk_farM R3.out (by omega), ?_, ⟨_, blk_put RP.out 2 _ rfl, ?_⟩, by simp; omega⟩, RB.out.setCell (p := ⟨Bp, 2, none⟩) hpn _⟩
        · intro p hp
          rw [show vals (pre ++ [⟨x, hx⟩]) = vals pre ++ [x] by simp [vals]] at hp
          rcases List.mem_append.1 hp with hp | hp
          · exact HM1.out p hp
          · rw [List.mem_singleton.1 hp]; exact HE0.out
        · have e4 : (((pre ++ [(⟨x, hx⟩ : El)]).length : Nat) : Int) - 1 = li + 1 := by have := HL.out; simp only [List.length_append, List.length_cons, List.length_nil]; omega
          rw [e4]
          exact blk_farM R4.out (by omega)
        · rw [show vals (pre ++ [⟨x, hx⟩]) = vals pre ++ [x] by simp [vals], HSN.out, HWO2.out]
          have hR6 := Kd.R_set RR.out (t := 60) RP.out (by intro z hz; simp [Kd.int, Kd.scalar] at hz; omega) 2 (.slice Ax ((outL m (vals pre)).length + 1) cx)
          simpa using hR6
    · have hmk2 : x.2.f0.toList.isEmpty = false := by cases e : x.2.f0.toList with | nil => exact absurd e hmk0 | cons a b => rfl
      have HWO2 : Hid (wordsP m x = []) := Lib.hid (by rw [HWO.out, if_neg hmk0])
      have HST2 : Hid (numE m x = 0) := Lib.hid (by rw [HST.out, if_neg hmk0])
      gi_wp2
      rw [← HW1.out]
      refine ⟨GK.out, GT.out, ⟨?_, GM.out, G1.out, G2.out, G3.out, ?_, ⟨v, GP.out, ?_⟩, by omega⟩, GB.out⟩
      · intro p hp
        rw [show vals (pre ++ [⟨x, hx⟩]) = vals pre ++ [x] by simp [vals]] at hp
        rcases List.mem_append.1 hp with hp | hp
        · exact HM1.out p hp
        · rw [List.mem_singleton.1 hp]; exact HST2.out
      · have := G4.out
        rw [HL.out] at this
        simpa using this
      · rw [show vals (pre ++ [⟨x, hx⟩]) = vals pre ++ [x] by simp [vals], HSN.out, HWO2.out, List.append_nil]
        exact GR.out
  case done =>
    rintro D ys W hD hS ⟨⟨hm1, hm2, hv1, hv2, hv3, hv4, ⟨v, hvp, hvr⟩, hsW⟩, hBW⟩ hK
    have hS' : vals ys = placedL xs 0 := hS
    rw [hS'] at hm1 hvr
    have hfin := putR_ok m 0 hm1
    have hc2 := hv2.cell
    have hf2 := hv2.frozen
    have hc3 := hv3.cell
    have hf3 := hv3.frozen
    have hDp : D ≠ Bp := by omega
    have hR' : RW n₀ ((W.setCell ⟨w.heap.size + 1, 0, none⟩ (.int .i64 0)).setCell ⟨w.heap.size + 2, 0, none⟩ (.int .i64 0)) v (outL m (placedL xs 0)) :=
      Kd.R_set (Kd.R_set hvr (t := 3) (cells := #[.int .i64 0]) hv2 (by intro z hz; simp [Kd.int, Kd.scalar] at hz; omega) 0 _) (t := 24) (cells := #[.int .i64 0]) (hv3.other (by omega) _) (by intro z hz; simp [Kd.int, Kd.scalar] at hz; omega) 0 _
    have HFIN := Lib.hid hfin
    have HVP := Lib.hid hvp
    have HR := Lib.hid hR'
    clear hfin hm1 hm2 hS hS' hvp hvr hR'
    gi_wp2
    have hw1 : Boxed ((W.setCell ⟨w.heap.size + 1, 0, none⟩ (.int .i64 0)).setCell ⟨w.heap.size + 2, 0, none⟩ (.int .i64 0)) (w.heap.size + 1) 3 (.int .i64 0) := (hv2.set _).other (by omega) _
    have hw2 : Boxed ((W.setCell ⟨w.heap.size + 1, 0, none⟩ (.int .i64 0)).setCell ⟨w.heap.size + 2, 0, none⟩ (.int .i64 0)) (w.heap.size + 2) 24 (.int .i64 0) := (hv3.other (by omega) _).set _
    have hK' := ((KeepsOthers.setCell W ⟨w.heap.size + 1, 0, none⟩ (.int .i64 0)).trans (KeepsOthers.setCell _ ⟨w.heap.size + 2, 0, none⟩ (.int .i64 0))).same D _ hK rfl
    have hB' := (hBW.setCell (p := ⟨w.heap.size + 1, 0, none⟩) (by dsimp only; omega) (.int .i64 0)).setCell (p := ⟨w.heap.size + 2, 0, none⟩) (by dsimp only; omega) (.int .i64 0)
    refine ⟨by simp, .inl ⟨_, _, rfl, run_takeDeferred hK', ?_⟩⟩
    have hc5 := cell_kept hw1.cell (grownBy_putObj' _ D (.deferred none)) (fun r e => by cases e; exact ⟨_, hK', rfl⟩)
    have hc6 := cell_kept hw2.cell (grownBy_putObj' _ D (.deferred none)) (fun r e => by cases e; exact ⟨_, hK', rfl⟩)
    refine ⟨.tuple #[.int .i64 0, .int .i64 0], ?_, by rw [HFIN.out], hB'.grown (grownBy_putObj' _ D _) (by simp; omega) (fun k e => by cases e; omega), by simp; omega, v, ?_, fun _ => RW_own (n := W3.heap.size) HR.out (grownBy_putObj' _ D _) (fun r e => by cases e; exact ⟨hD, _, hK', rfl⟩)⟩
    · simp [results, Tryz.f23, go_sem, hc5, hc6]
    · rw [World.putObj_heap_other (Ne.symm hDp), Below.heap_setCell _ _ _ _ (by dsimp only; omega), Below.heap_setCell _ _ _ _ (by dsimp only; omega), HVP.out]
  case stop =>
    rintro D cd pre W hD hpre ⟨⟨rfl, ⟨q, z, rfl, hm1, hst, hv2, hv3⟩, ⟨v, hvp⟩, hsW⟩, hBW⟩ hK
    have hpre' : vals (q ++ [z]) <+: placedL xs 0 := hpre
    obtain ⟨t, ht⟩ := hpre'
    have hfin := putR_bad m (b := t) (p := z.1) 0 hm1 hst
    have e1 : placedL xs 0 = vals q ++ z.1 :: t := by rw [← ht]; simp [vals]
    rw [← e1] at hfin
    have hlq : (vals q).length = q.length := by simp [vals]
    rw [Nat.zero_add, hlq] at hfin
    have hDp : D ≠ Bp := by omega
    have HFIN := Lib.hid hfin
    have HVP := Lib.hid hvp
    have HST := Lib.hid hst
    clear hfin hm1 hpre hvp ht e1 hlq hst
    gi_wp2
    refine ⟨by simp, .inl ⟨_, _, rfl, run_takeDeferred hK, ?_⟩⟩
    have hc5 := cell_kept hv2.cell (grownBy_putObj' _ D (.deferred none)) (fun r e => by cases e; exact ⟨_, hK, rfl⟩)
    have hc6 := cell_kept hv3.cell (grownBy_putObj' _ D (.deferred none)) (fun r e => by cases e; exact ⟨_, hK, rfl⟩)
    refine ⟨.tuple #[.int .i64 q.length, .int .i64 (numE m z.1)], ?_, by rw [HFIN.out], hBW.grown (grownBy_putObj' _ D _) (by omega) (fun k e => by cases e; omega), by simp; omega, v, ?_, fun h => absurd (by rw [HFIN.out] at h; exact h) HST.out⟩
    · simp [results, Tryz.f23, go_sem, hc5, hc6]
    · rw [World.putObj_heap_other (Ne.symm hDp), HVP.out]
end Go.Proofs.YtbelnkdbghggmaaGreatDoor.X
namespace Go.Proofs.YtbelnkdbghggmaaGreatDoor.X
open Go.RowKit Go.Proofs.YtbelnkdbghggmaaGreatDoorW.PrintWords Go.Proofs.YtbelnkdbghggmaaGreatDoorW.PrintLast
set_option linter.unusedVariables false
set_option linter.unusedSimpArgs false
theorem getL_bd (k : ByteArray) : ∀ m : Marks, (∀ e ∈ m, 0 ≤ e.2 ∧ e.2 ≤ 1099511627776) → 0 ≤ Mp.getL k 0 m ∧ Mp.getL k 0 m ≤ 1099511627776
  | [], _ => by simp [Mp.getL]
  | (a, v) :: r, h => by
    simp only [Mp.getL]
    split
    · exact h (a, v) List.mem_cons_self
    · exact getL_bd k r (fun e he => h e (List.mem_cons_of_mem _ he))
theorem putL_mem (k : ByteArray) (v : Int) : ∀ (m : Marks) (e : ByteArray × Int), e ∈ Mp.putL k v m → e.2 = v ∨ e ∈ m
  | [], e, h => by simp [Mp.putL] at h; exact .inl (by rw [h])
  | (a, u) :: r, e, h => by
    simp only [Mp.putL] at h
    split at h
    · rcases List.mem_cons.1 h with rfl | h
      · exact .inl rfl
      · exact .inr (List.mem_cons_of_mem _ h)
    · rcases List.mem_cons.1 h with rfl | h
      · exact .inr List.mem_cons_self
      · rcases putL_mem k v r e h with h | h
        · exact .inl h
        · exact .inr (List.mem_cons_of_mem _ h)
theorem lookR_marks : ∀ (l : List (Int × S40)) (i : Nat) (m : Marks), (∀ p ∈ l, 0 ≤ p.1 ∧ p.1 ≤ 1099511627776) → (∀ e ∈ m, 0 ≤ e.2 ∧ e.2 ≤ 1099511627776) → ∀ e ∈ (lookR l i m).2.2, 0 ≤ e.2 ∧ e.2 ≤ 1099511627776
  | [], _, m, _, hm => hm
  | p :: r, i, m, hl, hm => by
    simp only [lookR]
    split
    · refine lookR_marks r (i + 1) _ (fun q hq => hl q (List.mem_cons_of_mem _ hq)) (fun e he => ?_)
      unfold stepM at he
      split at he
      · exact hm e he
      · rcases putL_mem _ _ _ _ he with h | h
        · rw [h]; exact hl p List.mem_cons_self
        · exact hm e h
    · exact hm
/-- A program's words; the line with an error; the error. -/
def asmPut (l : List S40) : List Int × Int × Int :=
  if (lookR (placedL l 0) 0 []).2.1 ≠ 0 then ([], (lookR (placedL l 0) 0 []).1, (lookR (placedL l 0) 0 []).2.1)
  else if (putR (lookR (placedL l 0) 0 []).2.2 (placedL l 0) 0).2 ≠ 0 then ([], (putR (lookR (placedL l 0) 0 []).2.2 (placedL l 0) 0).1, (putR (lookR (placedL l 0) 0 []).2.2 (placedL l 0) 0).2)
  else (outL (lookR (placedL l 0) 0 []).2.2 (placedL l 0), 0, 0)
theorem wf_placed {l : List S40} (h : ∀ x ∈ l, wfX x) (hl : l.length ≤ 1099511627776) : ∀ p ∈ placedL l 0, wfP p := fun p hp => by
  obtain ⟨h1, h2, h3⟩ := mem_placed hp
  exact ⟨⟨by omega, by omega⟩, h _ h1⟩
set_option maxRecDepth 100000 in
set_option maxHeartbeats 8000000 in
theorem Put_any (A : Option Addr) (c : Nat) (l : List S40) (w : World) (hr : Kd.C k40 w A l.length l) (hwf : ∀ x ∈ l, wfX x) (hl : l.length ≤ 1099511627776) :
    Calls Tryz.prog 12 #[.slice A l.length c] w fun e w' => ∃ v0_ : Value, e = .returned (.tuple #[v0_, .int .i64 (asmPut l).2.1, .int .i64 (asmPut l).2.2]) ∧ RW w.heap.size w' v0_ (asmPut l).1 ∧ Below w.heap.size w w' := by
  have hmm := @run_makeMap Tryz.prog
  have hlp := wf_placed hwf hl
  obtain ⟨W1, hW1⟩ : ∃ W1, W1 = (w.alloc (.map #[] 0)).alloc (.cells #[.slice A l.length c, .map (some w.heap.size), .slice none 0 0] 60) := ⟨_, rfl⟩
  have hB1 : Below w.heap.size w W1 := by rw [hW1]; exact below_alloc (below_alloc (Below.refl _ _) _) _
  have hp1 : W1.heap[w.heap.size + 1]? = some (.cells #[.slice A l.length c, .map (some w.heap.size), .slice none 0 0] 60 (0, 0)) := by rw [hW1]; have := blk_new (w.alloc (.map #[] 0)) (.cells #[.slice A l.length c, .map (some w.heap.size), .slice none 0 0] 60); rwa [World.size_alloc] at this
  have hM1 : Mp.Is Mp.encS Mp.encN W1 w.heap.size ([] : Marks) := by rw [hW1]; exact (Mp.Is.mk_new w).below (below_alloc (Below.refl _ _) _)
  have hlook := look_any w.heap.size (w.heap.size + 1) w.heap.size A c l (.slice none 0 0) w W1 hr rfl hB1 hlp hl hp1 hM1 (by omega) (Nat.le_refl _)
  have hmk := lookR_marks (placedL l 0) 0 [] (fun p hp => (hlp p hp).1) (fun e he => by cases he)
  have hdef : asmPut l = (if (lookR (placedL l 0) 0 []).2.1 ≠ 0 then ([], (lookR (placedL l 0) 0 []).1, (lookR (placedL l 0) 0 []).2.1)
    else if (putR (lookR (placedL l 0) 0 []).2.2 (placedL l 0) 0).2 ≠ 0 then ([], (putR (lookR (placedL l 0) 0 []).2.2 (placedL l 0) 0).1, (putR (lookR (placedL l 0) 0 []).2.2 (placedL l 0) 0).2)
    else (outL (lookR (placedL l 0) 0 []).2.2 (placedL l 0), 0, 0)) := rfl
  have hput := fun W hb hp hM => put_any w.heap.size (w.heap.size + 1) w.heap.size A c l (lookR (placedL l 0) 0 []).2.2 w W hr rfl hb hlp hl hp hM (by omega) (Nat.le_refl _) (fun k => getL_bd k _ hmk)
  generalize (lookR (placedL l 0) 0 []).1 = li at *
  generalize (lookR (placedL l 0) 0 []).2.1 = le at *
  generalize (lookR (placedL l 0) 0 []).2.2 = mk at *
  generalize outL mk (placedL l 0) = ws at *
  generalize (putR mk (placedL l 0) 0).1 = pi at *
  generalize (putR mk (placedL l 0) 0).2 = pe at *
  have HD := Aside0.mk hdef
  have HW1 := Aside0.mk hW1
  have HB1 := Aside0.mk hB1
  have HPUT := Aside0.mk hput
  have HLOOK := Aside0.mk hlook
  clear hdef hW1 hB1 hput hlook hp1 hM1 hmk hlp hwf hr
  go_enter Tryz.func12, Tryz.ntmps12
  go_wp2_with fail
  rw [← HW1.out]
  go_at_call 22
  refine HLOOK.out.mono ?_
  rintro e_ w2 ⟨rfl, hb2, hs2, hp2, hM2⟩
  have hB2 : Below w.heap.size w w2 := HB1.out.trans hb2
  by_cases hle : le = 0
  · have hle2 : (le == 0) = true := by rw [hle]; rfl
    have HLE := Aside0.mk hle
    clear hle
    go_wp2_with fail
    go_at_call 23
    refine (HPUT.out w2 hB2 hp2 hM2).mono ?_
    rintro e_ w3 ⟨rfl, hb3, hs3, v, hp3, hr3⟩
    have hB3 : Below w.heap.size w w3 := hB2.trans hb3
    by_cases hpe : pe = 0
    · have hpe2 : (pe == 0) = true := by rw [hpe]; rfl
      have hv := hr3 hpe
      have HPE := Aside0.mk hpe
      clear hpe hr3
      obtain ⟨A3, c3, rfl⟩ := Kd.R_slice hv
      have hc3 : w3.cell? ⟨w.heap.size + 1, 2, none⟩ = some (.slice A3 ws.length c3) := (blk_cell hp3 2).trans rfl
      have HV := Aside0.mk hv
      have HB3 := Aside0.mk hB3
      clear hv hB3 hb3 hB2 hb2 hM2 hp2 hp3
      go_wp2
      refine bodyPost_ret (v := .tuple #[.slice A3 ws.length c3, .int .i64 0, .int .i64 0]) (by simp [results, Tryz.results12, go_sem]) rfl ?_
      have hd : asmPut l = (ws, 0, 0) := by rw [HD.out, HLE.out, HPE.out]; rfl
      rw [hd]
      exact ⟨_, rfl, HV.out, HB3.out⟩
    · have hpe2 : (pe == 0) = false := by simpa using hpe
      have HPE := Aside0.mk hpe
      have HB3 := Aside0.mk hB3
      clear hpe hr3 hB3 hb3 hB2 hb2 hM2 hp2 hp3
      go_wp2
      refine bodyPost_ret (v := .tuple #[.slice none 0 0, .int .i64 pi, .int .i64 pe]) (by simp [results, Tryz.results12, go_sem]) rfl ?_
      have hd : asmPut l = ([], pi, pe) := by rw [HD.out, HLE.out, if_neg (by simp), if_pos HPE.out]
      rw [hd]
      exact ⟨_, rfl, Kd.R_nil _ _ _ _ _, HB3.out⟩
  · have hle2 : (le == 0) = false := by simpa using hle
    have HLE := Aside0.mk hle
    have HB2 := Aside0.mk hB2
    clear hle hB2 hb2 hM2 hp2
    go_wp2
    refine bodyPost_ret (v := .tuple #[.slice none 0 0, .int .i64 li, .int .i64 le]) (by simp [results, Tryz.results12, go_sem]) rfl ?_
    have hd : asmPut l = ([], li, le) := by rw [HD.out, if_pos HLE.out]
    rw [hd]
    exact ⟨_, rfl, Kd.R_nil _ _ _ _ _, HB2.out⟩
def wfXb (x : S40) : Bool := decide (-2147483648 ≤ x.f1.f4) && decide (x.f1.f4 ≤ 2147483647) && decide (x.f0.size ≤ 9223372036854775807) && decide (x.f2.size ≤ 9223372036854775807)
theorem wfXb_iff (x : S40) : wfXb x = true ↔ wfX x := by
  unfold wfXb wfX
  simp only [Bool.and_eq_true, decide_eq_true_eq]
  constructor
  · rintro ⟨⟨⟨h1, h2⟩, h3⟩, h4⟩; exact ⟨⟨h1, h2⟩, h3, h4⟩
  · rintro ⟨⟨h1, h2⟩, h3, h4⟩; exact ⟨⟨⟨h1, h2⟩, h3⟩, h4⟩
def wfLb (l : List S40) : Bool := l.all wfXb && decide (l.length ≤ 1099511627776)
theorem wfLb_iff (l : List S40) : wfLb l = true ↔ (∀ x ∈ l, wfX x) ∧ l.length ≤ 1099511627776 := by
  unfold wfLb
  rw [Bool.and_eq_true, List.all_eq_true, decide_eq_true_eq]
  constructor
  · rintro ⟨h1, h2⟩; exact ⟨fun x hx => (wfXb_iff x).1 (h1 x hx), h2⟩
  · rintro ⟨h1, h2⟩; exact ⟨fun x hx => (wfXb_iff x).2 (h1 x hx), h2⟩
def asm_Put.f (a0 : List S40) : Option (List Int × Int × Int) := if wfLb a0 = true then some (asmPut a0) else none
theorem asm_Put.calls (A0 : Option Addr) (c0 : Nat) (l0 : List S40) (r1 : List Int) (r2 r3 : Int) (w : World) (hr0 : Kd.C k40 w A0 l0.length l0) (hc0 : l0.length ≤ c0) (h : asm_Put.f l0 = some (r1, r2, r3)) :
    Calls Tryz.prog 12 #[.slice A0 l0.length c0] w fun e w' => ∃ v0_ : Value, e = .returned (.tuple #[v0_, .int .i64 r2, .int .i64 r3]) ∧ Kd.R (Kd.int .u64) 63 w' w.heap.size (fun _ => True) v0_ r1 ∧ Below w.heap.size w w' := by
  unfold asm_Put.f at h
  split at h
  · rename_i hb
    obtain ⟨h1, h2⟩ := (wfLb_iff l0).1 hb
    have := Put_any A0 c0 l0 w hr0 h1 h2
    rw [Option.some.inj h] at this
    exact this
  · cases h
end Go.Proofs.YtbelnkdbghggmaaGreatDoor.X
namespace Go.Proofs.YtbelnkdbghggmaaGreatDoor.X
open Go.RowKit Go.Proofs.YtbelnkdbghggmaaGreatDoorW.PrintWords Go.Proofs.YtbelnkdbghggmaaGreatDoorW.PrintLast
set_option linter.unusedVariables false
set_option linter.unusedSimpArgs false
/-- What the library's variables hold: the table of powers of ten, two errors, a length. -/
structure Env (w : World) : Prop where
  tab : Tab w
  syn : ∃ tp p, w.var? Tryz.prog "strconv.ErrSyntax" = some #[.iface tp p]
  rng : ∃ tp p, w.var? Tryz.prog "strconv.ErrRange" = some #[.iface tp p]
  mlen : ∃ m : Int, w.cell? ⟨0, 0, none⟩ = some (.int .i64 m)
theorem var_mono {w w' : World} {n : String} {v : Array Value} (h : w.var? Tryz.prog n = some v) (hb : Below w.heap.size w w') : w'.var? Tryz.prog n = some v := by
  unfold World.var? at *
  cases hg : Tryz.prog.globalNamed n with
  | none => simp [hg] at h
  | some g =>
    simp only [hg, Option.bind_some] at h ⊢
    have hlt : g < w.heap.size := by
      rcases Nat.lt_or_ge g w.heap.size with h' | h'
      · exact h'
      · rw [Array.getElem?_eq_none h'] at h; simp at h
    rw [hb.block g hlt]
    exact h
theorem env_mono {w w' : World} (h : Env w) (hb : Below w.heap.size w w') : Env w' :=
  ⟨tab_mono h.tab hb, let ⟨t, p, e⟩ := h.syn; ⟨t, p, var_mono e hb⟩, let ⟨t, p, e⟩ := h.rng; ⟨t, p, var_mono e hb⟩, let ⟨m, e⟩ := h.mlen; ⟨m, (hb.cell (p := ⟨0, 0, none⟩) (by
     unfold World.cell? at e
     rcases Nat.lt_or_ge 0 w.heap.size with h' | h'
     · exact h'
     · simp [Array.getElem?_eq_none h'] at e)).trans e⟩⟩
def decV (x : Int) : Int × Int × Int × Int × Int × Bool := (inst_Decode.f x).getD (0, 0, 0, 0, 0, false)
theorem decI_bd (x : Int) : -2147483648 ≤ decI x ∧ decI x ≤ 2147483647 := by
  unfold decI
  rw [IntKind.wrap_i32]
  omega
theorem dec_val (x : Int) : inst_Decode.f x = some (decV x) := by
  have he := decI_bd x
  have h1 : inst_Fit.f (decOp x) (decA x) (decB x) (decC x) (decI x) = some (fitB (decOp x) (decA x) (decB x) (decC x) (decI x)) := by unfold inst_Fit.f; rw [if_pos he]
  unfold decV inst_Decode.f
  rw [h1]
  simp only [Option.bind_some]
  split
  · unfold inst_Encode.f
    rw [h1]
    simp only [Option.bind_some]
    split <;> simp only [Option.bind_some] <;> split <;> rfl
  · rfl
theorem dec_imm (x : Int) : -2147483648 ≤ (decV x).2.2.2.2.1 ∧ (decV x).2.2.2.2.1 ≤ 2147483647 := by
  have h := dec_val x
  have he := decI_bd x
  generalize decV x = d at *
  unfold inst_Decode.f at h
  obtain ⟨t, ht, h⟩ := Option.bind_eq_some_iff.1 h
  split at h
  · obtain ⟨e, _, h⟩ := Option.bind_eq_some_iff.1 h
    split at h
    · cases h; exact he
    · cases h; exact ⟨by decide, by decide⟩
  · cases h; exact ⟨by decide, by decide⟩
/-- An instruction's text. -/
def txtV (op a b c e : Int) : ByteArray := if fitB op a b c e = true then textP op a b c e (List.range 4) else ByteArray.empty
theorem txt_val (op a b c e : Int) (he : -2147483648 ≤ e ∧ e ≤ 2147483647) : inst_Text.f op a b c e = some (txtV op a b c e) := by
  unfold inst_Text.f inst_Fit.f txtV
  rw [if_pos he]
  simp only [Option.bind_some]
  split <;> rfl
theorem txt_size (op a b c e : Int) (he : -2147483648 ≤ e ∧ e ≤ 2147483647) : (txtV op a b c e).size ≤ 100 := by
  unfold txtV
  split
  · rename_i h
    unfold fitB at h
    rw [Bool.and_eq_true] at h
    have := textP_size op a b c e (num_bd op a b c e he h.2) 4 (List.range 4) rfl
    omega
  · decide
/-- A word's line. -/
def lineW (x : Int) : ByteArray := if (decV x).2.2.2.2.2 = true then txtV (decV x).1 (decV x).2.1 (decV x).2.2.1 (decV x).2.2.2.1 (decV x).2.2.2.2.1 ++ ⟨#[10]⟩ else (⟨#[63]⟩ : ByteArray) ++ ⟨#[10]⟩
theorem lineW_size (x : Int) : (lineW x).size ≤ 101 := by
  unfold lineW
  split
  · have := txt_size (decV x).1 (decV x).2.1 (decV x).2.2.1 (decV x).2.2.2.1 (decV x).2.2.2.2.1 (dec_imm x)
    rw [bsize_append]
    have : (⟨#[10]⟩ : ByteArray).size = 1 := rfl
    omega
  · decide +kernel
def listB (ws : List Int) : List UInt8 := ws.flatMap fun x => (lineW x).data.toList
theorem listB_snoc (ws : List Int) (x : Int) : listB (ws ++ [x]) = listB ws ++ (lineW x).data.toList := by simp [listB]
theorem listB_length (ws : List Int) : (listB ws).length ≤ 101 * ws.length := by
  induction ws with
  | nil => simp [listB]
  | cons x r ih =>
    have := lineW_size x
    have h2 : (lineW x).data.toList.length = (lineW x).size := data_length _
    simp only [listB, List.flatMap_cons, List.length_append, List.length_cons] at *
    omega
abbrev Bld (B : Nat) (l : List UInt8) (w : World) : Prop := Lib.IsBuilder 49 5 B B (Lib.byteCells l) w
theorem bld_below {B : Nat} {l : List UInt8} {w w' : World} (h : Bld B l w) (hb : Below w.heap.size w w') : Bld B l w' := by
  have key : ∀ p, Lib.BuilderAt 49 5 B B p (Lib.byteCells l) w → Lib.BuilderAt 49 5 B B p (Lib.byteCells l) w' := fun p ⟨h0, v, h1, h2, h3⟩ =>
    ⟨h0, v, (hb.block B (Array.getElem?_eq_some_iff.1 h1).1).trans h1, World.ownsRow.kept h2 (grown_of_below hb none) (by cases v.ownBlock <;> simp), h3⟩
  exact h.imp (key _) (key _)
theorem write_any (B : Nat) (l : List UInt8) (s : ByteArray) (w : World) (h : Bld B l w) (hlen : l.length + s.size ≤ 140737488355328) (hBw : B ≤ w.heap.size) :
    Calls Tryz.prog 18 #[.pointer (some ⟨B, 0, none⟩), .string s] w fun e w' => e = .returned (.tuple #[.int .i64 s.size, .nilIface]) ∧ Bld B (l ++ s.data.toList) w' ∧ Below B w w' := by
  have e1 : Lib.byteCells (l ++ s.data.toList) = Lib.byteCells l ++ Lib.strCells s := by rw [Lib.strCells_eq]; simp [Lib.byteCells]
  refine (Tryz.Builder_WriteString B B (Lib.byteCells l) s w h (by rw [Lib.byteCells_length]; exact hlen) hBw).mono fun e w' ⟨he, hb, hw⟩ => ⟨he, ?_, hw⟩
  rw [Bld, e1]
  exact .inr hb
theorem take_snocI (ws : List Int) (k : Nat) (hk : k < ws.length) : ws.take (k + 1) = ws.take k ++ [rd ws (k : Int)] := by
  rw [List.take_succ_eq_append_getElem hk]
  simp [rd, List.getD_eq_getElem?_getD, hk]
set_option maxRecDepth 100000 in
set_option maxHeartbeats 8000000 in
theorem List_any (A : Option Addr) (c : Nat) (ws : List Int) (w : World) (hr : Kd.C (Kd.int .u64) w A ws.length ws) (hl : ws.length ≤ 1099511627) (ht : Tab w) :
    Calls Tryz.prog 13 #[.slice A ws.length c] w fun e w' => e = .returned (.string ⟨(listB ws).toArray⟩) ∧ Below w.heap.size w w' := by
  have HR := Aside0.mk hr
  have HT := Aside0.mk ht
  have hmax := Kd.C_max hr
  have hu26 := Tryz.underlying38
  clear hr ht
  go_enter Tryz.func13, Tryz.ntmps13
  go_wp2
  go_loopw [11] (fun i wr => ∃ k : Nat, k ≤ ws.length ∧ i = .int .i64 k ∧ Aside0 (Bld w.heap.size (listB (ws.take k)) wr) ∧ Aside0 (Below w.heap.size w wr)) (fun i _ => ws.length - (intOf i).toNat)
  case atStart => exact ⟨0, Nat.zero_le _, rfl, ⟨Lib.fresh_isBuilder 49 5 w⟩, ⟨below_alloc (Below.refl _ _) _⟩⟩
  case round =>
    obtain ⟨k, hk, rfl, HO, HB⟩ := hrel
    by_cases hlt : k < ws.length
    · obtain ⟨ad, e1, hx⟩ := Kd.at_int HR.out (k : Int) (by omega) (by omega)
      cases e1
      replace hx := (HB.out.cell (World.block_lt_of_cell? w _ hx)).trans hx
      rw [Int.toNat_natCast] at hx
      have hts := take_snocI ws k hlt
      have hls := listB_snoc (ws.take k) (rd ws (k : Int))
      rw [← hts] at hls
      have hln : lineW (rd ws (k : Int)) = (if (decV (rd ws (k : Int))).2.2.2.2.2 = true then txtV (decV (rd ws (k : Int))).1 (decV (rd ws (k : Int))).2.1 (decV (rd ws (k : Int))).2.2.1 (decV (rd ws (k : Int))).2.2.2.1 (decV (rd ws (k : Int))).2.2.2.2.1 ++ ⟨#[10]⟩ else (⟨#[63]⟩ : ByteArray) ++ ⟨#[10]⟩) := rfl
      have hll := listB_length (ws.take k)
      rw [List.length_take] at hll
      have hdv := dec_val (rd ws (k : Int))
      have him := dec_imm (rd ws (k : Int))
      have htx := txt_val (decV (rd ws (k : Int))).1 (decV (rd ws (k : Int))).2.1 (decV (rd ws (k : Int))).2.2.1 (decV (rd ws (k : Int))).2.2.2.1 (decV (rd ws (k : Int))).2.2.2.2.1 him
      have hsz := txt_size (decV (rd ws (k : Int))).1 (decV (rd ws (k : Int))).2.1 (decV (rd ws (k : Int))).2.2.1 (decV (rd ws (k : Int))).2.2.2.1 (decV (rd ws (k : Int))).2.2.2.2.1 him
      generalize rd ws (k : Int) = x at *
      generalize txtV (decV x).1 (decV x).2.1 (decV x).2.2.1 (decV x).2.2.2.1 (decV x).2.2.2.2.1 = tx at *
      generalize hd : decV x = d at *
      obtain ⟨d1, d2, d3, d4, d5, dok⟩ := d
      have hL : (listB (ws.take k)).length ≤ 101 * 1099511627 := Nat.le_trans hll (by omega)
      generalize listB (ws.take k) = L at *
      generalize hL1 : listB (ws.take (k + 1)) = L1 at *
      have HLS := Aside0.mk hls
      have HLN := Aside0.mk hln
      have HDV := Aside0.mk hdv
      have HTX := Aside0.mk htx
      have HL1 := Aside0.mk hL1
      clear hls hln hdv htx hll hts hd him hL1
      cases dok with
      | true =>
        go_wp2_with (first
          | (go_at_call 24; (with_reducible refine (inst_Decode.calls _ _ _ _ _ _ _ _ HDV.out).mono ?_); rintro e_ w1 ⟨rfl, hb1⟩)
          | (go_at_call 25; (with_reducible refine (inst_Text.calls _ _ _ _ _ _ _ (tab_mono HT.out (by first | exact below_step (HB.out) (below_step (below_alloc hb1 _) (Below.refl _ _)) | exact below_step HB.out (below_alloc hb1 _))) HTX.out).mono ?_); rintro e_ w2 ⟨rfl, hb2⟩))
        have hc1 : Below wr.heap.size wr w2 := below_step (below_alloc hb1 _) hb2
        have hO2 := bld_below HO.out hc1
        have hs2 := hc1.size
        have hs0 := HB.out.size
        have hlen : (tx ++ (⟨#[10]⟩ : ByteArray)).size = tx.size + 1 := bsize_append _ _
        have hw := write_any w.heap.size L (tx ++ ⟨#[10]⟩) w2 hO2 (by rw [hlen]; omega) (by omega)
        have HW := Aside0.mk hw
        have HB2 := Aside0.mk (HB.out.trans (hc1.mono hs0))
        clear hO2 hw hc1 hb1 hb2 hlen
        refine HW.out.mono ?_
        rintro e_ w3 ⟨rfl, ho3, hb3⟩
        have HO3 := Aside0.mk ho3
        have HB3 := Aside0.mk (HB2.out.trans hb3)
        clear ho3 hb3
        go_wp2
        go_roundw
        case rel => exact ⟨k + 1, by omega, by go_num, ⟨by rw [HL1.out, HLS.out, HLN.out]; exact HO3.out⟩, ⟨HB3.out⟩⟩
        case measure => simp [intOf]; omega
      | false =>
        have hs0 := HB.out.size
        have qm_len : L.length + ((⟨#[63]⟩ : ByteArray) ++ ⟨#[10]⟩).size ≤ 140737488355328 := by
          have : ((⟨#[63]⟩ : ByteArray) ++ ⟨#[10]⟩).size = 2 := by decide +kernel
          omega
        have QM := Aside0.mk qm_len
        clear qm_len
        go_wp2_with (first
          | (go_at_call 24; (with_reducible refine (inst_Decode.calls _ _ _ _ _ _ _ _ HDV.out).mono ?_); rintro e_ w1 ⟨rfl, hb1⟩; have hc1 := below_alloc hb1 (.cells #[.int .i64 d1, .int .i64 d2, .int .i64 d3, .int .i64 d4, .int .i32 d5] 38); have hO2 := bld_below HO.out hc1; have hs2 := hc1.size; have HO2 := Aside0.mk hO2; have HC1 := Aside0.mk hc1; clear hO2 hc1 hb1)
          | (go_at_call 18; (with_reducible refine (write_any w.heap.size L ((⟨#[63]⟩ : ByteArray) ++ ⟨#[10]⟩) _ HO2.out QM.out (by omega)).mono ?_); rintro e_ w3 ⟨rfl, ho3, hb3⟩; have HO3 := Aside0.mk ho3; have HB3 := Aside0.mk ((HB.out.trans (HC1.out.mono hs0)).trans hb3); clear ho3 hb3))
        go_roundw
        case rel => exact ⟨k + 1, by omega, by go_num, ⟨by rw [HL1.out, HLS.out, HLN.out]; exact HO3.out⟩, ⟨HB3.out⟩⟩
        case measure => simp [intOf]; omega
    · obtain rfl : k = ws.length := by omega
      have hO := HO.out
      rw [List.take_length] at hO
      have HO1 := Aside0.mk hO
      have hsB := HB.out.size
      clear hO
      go_wp2_with (go_at_call 20; (with_reducible refine (Tryz.Builder_String_any w.heap.size w.heap.size (listB ws) _ HO1.out hsB).mono ?_); rintro e_ w3 ⟨rfl, hb3⟩)
      go_ret
      exact ⟨rfl, HB.out.trans hb3⟩
def asm_List.f (a0 : List Int) : Option ByteArray := if a0.length ≤ 1099511627 then some ⟨(listB a0).toArray⟩ else none
theorem asm_List.calls (A0 : Option Addr) (c0 : Nat) (l0 : List Int) (r : ByteArray) (w : World) (ht : Env w) (hr0 : Kd.C (Kd.int .u64) w A0 l0.length l0) (hc0 : l0.length ≤ c0) (h : asm_List.f l0 = some r) :
    Calls Tryz.prog 13 #[.slice A0 l0.length c0] w fun e w' => e = .returned (.string r) ∧ Below w.heap.size w w' := by
  unfold asm_List.f at h
  split at h
  · rename_i hl
    obtain rfl := Option.some.inj h
    exact List_any A0 c0 l0 w hr0 hl ht.tab
  · cases h
end Go.Proofs.YtbelnkdbghggmaaGreatDoor.X
