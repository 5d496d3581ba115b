/- Contract of (*program).look: it looks through all lines. -/
import Derived.Test.YtbelnkdbghggmaaDoorGf
import Derived.Test.YtbelnkdbghggmaaDoorNu
import Derived.Sort.CutIn
import Derived.Test.YtbelnkdbghggmaaDoorRh
namespace Go.Proofs.YtbelnkdbghggmaaDoor.X
open Go.RowKit Go.Shelf Go.Proofs.YtbelnkdbghggmaaDoorW.PrintWords Go.Proofs.YtbelnkdbghggmaaDoorW.PrintLast
attribute [local go_sem] Oper.semAt_some
set_option linter.unusedVariables false
set_option linter.unusedSimpArgs false
/-- What is wrong with a line; 0: nothing. -/
def stepE (m : Marks) (p : Int × S28) : Int :=
  if goodB p.2 = true then (if p.2.f0.toList = ([] : List UInt8) then (if p.1 = 4096 then 6 else 0) else (if Mp.hasL p.2.f0 m = true then 12 else 0)) else 11
def stepM (m : Marks) (p : Int × S28) : Marks := if p.2.f0.toList = ([] : List UInt8) then m else Mp.putL p.2.f0 p.1 m
/-- Marks behind lines of which none is wrong. -/
def okL : List (Int × S28) → Marks → Option Marks
  | [], m => some m
  | p :: r, m => if stepE m p = 0 then okL r (stepM m p) else none
theorem okL_append (a b : List (Int × S28)) (m : Marks) : okL (a ++ b) m = (okL a m).bind (okL b) := by
  induction a generalizing m with
  | nil => rfl
  | cons p r ih =>
    simp only [List.cons_append, okL]
    split
    · exact ih _
    · rfl
theorem okL_snoc {a : List (Int × S28)} {m m' : Marks} (p : Int × S28) (h : okL a m = some m') (h0 : stepE m' p = 0) : okL (a ++ [p]) m = some (stepM m' p) := by
  rw [okL_append, h]
  simp [okL, h0]
/-- The line with an error, the error, the marks. -/
def lookR : List (Int × S28) → Nat → Marks → Int × Int × Marks
  | [], _, m => (0, 0, m)
  | p :: r, i, m => if stepE m p = 0 then lookR r (i + 1) (stepM m p) else ((i : Int), stepE m p, m)
theorem lookR_ok {a : List (Int × S28)} {m m' : Marks} (i : Nat) (h : okL a m = some m') : lookR a i m = (0, 0, m') := by
  induction a generalizing m i with
  | nil => cases h; rfl
  | cons p r ih =>
    simp only [okL] at h
    split at h
    · rename_i h0
      simp only [lookR, if_pos h0]
      exact ih _ h
    · cases h
theorem lookR_bad {a b : List (Int × S28)} {m m' : Marks} (i : Nat) (p : Int × S28) (h : okL a m = some m') (h0 : stepE m' p ≠ 0) : lookR (a ++ p :: b) i m = (((i + a.length : Nat) : Int), stepE m' p, m') := by
  induction a generalizing m i with
  | nil =>
    cases h
    simp [lookR, h0]
  | cons q r ih =>
    simp only [okL] at h
    split at h
    · rename_i h1
      simp only [List.cons_append, lookR, if_pos h1]
      rw [ih _ h]
      simp [Nat.add_assoc, Nat.add_comm 1]
    · cases h
theorem mem_placed {l : List S28} {k : Nat} {p : Int × S28} (h : p ∈ placedL l k) : p.2 ∈ l ∧ (k : Int) ≤ p.1 ∧ p.1 < (k : Int) + l.length := by
  induction l generalizing k with
  | nil => cases h
  | cons x r ih =>
    simp only [placedL, List.mem_cons] at h
    rcases h with rfl | h
    · exact ⟨List.mem_cons_self, Int.le_refl _, by simp only [List.length_cons]; omega⟩
    · obtain ⟨h1, h2, h3⟩ := ih h
      refine ⟨List.mem_cons_of_mem _ h1, ?_, ?_⟩
      · split at h2 <;> omega
      · simp only [List.length_cons]
        split at h3 <;> omega
theorem own_keep {X Y : World} {row : Option Nat} {n : Nat} (hg : X.grownBy Y row) (hr : ∀ r, row = some r → n ≤ r ∧ ∃ o : Obj, X.heap[r]? = some o ∧ o.isCells = false) {k : Nat} {o : Obj} (hk : k < n) (h : X.heap[k]? = some o) : Y.heap[k]? = some o :=
  (hg.block k (Array.getElem?_eq_some_iff.1 h).1 (fun e => by have := (hr k e.symm).1; omega)).trans h
theorem boxB {W w2 : World} {B : Nat} {t : TypeId} {v : Value} (h : Boxed W B t v) (hb : Below W.heap.size W w2) : Boxed w2 B t v := blk_below h hb
theorem put_blk {W : World} {M b : Nat} {o o' : Obj} (hne : M ≠ b) (h : W.heap[b]? = some o) : (W.putObj M o').heap[b]? = some o := (World.putObj_heap_other (Ne.symm hne)).trans h
theorem KeepT.put {n₀ : Nat} {R : Nat → Prop} (W : World) (M : Nat) {o : Obj} (o' : Obj) (hn : n₀ ≤ M) (h : W.heap[M]? = some o) (h1 : o.isCells = false) : KeepT n₀ R W (W.putObj M o') :=
  KeepT.of_same ((Below.refl n₀ W).grown (grownBy_putObj' W M o') (by have := (Array.getElem?_eq_some_iff.1 h).1; omega) (fun k e => by cases e; exact hn)) (fun i cs t fr _ _ ho => put_blk (fun e => by subst e; rw [h] at ho; injection ho with ho; rw [ho] at h1; cases h1) ho)
theorem KeepT.drew {n₀ : Nat} {R : Nat → Prop} (W : World) : KeepT n₀ R W W.drew := KeepT.of_same (below_drew1 (Below.refl _ _)) fun _ _ _ _ _ _ h => h
theorem own_map {X Y : World} {row : Option Nat} {n M : Nat} {m : Marks} (hg : X.grownBy Y row) (hr : ∀ r, row = some r → n ≤ r ∧ ∃ o : Obj, X.heap[r]? = some o ∧ o.isCells = false) (hk : M < n) (h : Mp.Is Mp.encS Mp.encN X M m) : Mp.Is Mp.encS Mp.encN Y M m :=
  h.step (hg.block M h.lt (fun e => by have := (hr M e.symm).1; omega))
/-- A line with its place, as the model's. -/
def wfP (p : Int × S28) : Prop := (0 ≤ p.1 ∧ p.1 ≤ 1099511627776) ∧ wfX p.2
abbrev El := {p : Int × S28 // wfP p}
abbrev vals (l : List El) : List (Int × S28) := l.map (·.1)
set_option maxRecDepth 100000 in
set_option maxHeartbeats 8000000 in
theorem look_any (n₀ Bp M : Nat) (A : Option Addr) (c : Nat) (xs : List S28) (ov : Value) (w0 w : World) (hr : Kd.C k28 w0 A xs.length xs) (hn0 : w0.heap.size = n₀) (hb : Below n₀ w0 w) (hwf : ∀ p ∈ placedL xs 0, wfP p) (hx40 : xs.length ≤ 1099511627776)
    (hp : w.heap[Bp]? = some (.cells #[.slice A xs.length c, .map (some M), ov] 46 (0, 0))) (hM : Mp.Is Mp.encS Mp.encN w M ([] : Marks)) (hpn : n₀ ≤ Bp) (hMn : n₀ ≤ M) :
    Calls Tryd.prog 13 #[.pointer (some ⟨Bp, 0, none⟩)] w fun e_ w' => e_ = .returned (.tuple #[.int .i64 (lookR (placedL xs 0) 0 []).1, .int .i64 (lookR (placedL xs 0) 0 []).2.1]) ∧ Below n₀ w w' ∧ w.heap.size ≤ w'.heap.size ∧ w'.heap[Bp]? = some (.cells #[.slice A xs.length c, .map (some M), ov] 46 (0, 0)) ∧ Mp.Is Mp.encS Mp.encN w' M (lookR (placedL xs 0) 0 []).2.2 := by
  have hplaced := fun n W => (callsIn_wide (n := n)).2 (placed_calls A xs.length c W)
  have hs0 := hb.size
  have hMl := hM.lt
  have hpl : Bp < w.heap.size := (Array.getElem?_eq_some_iff.1 hp).1
  have hpc := blk_cell (blk_alloc (blk_alloc (blk_alloc (blk_alloc hp (.cells #[.pointer (some ⟨Bp, 0, none⟩)] 43)) (.cells #[.int .i64 0] 3)) (.cells #[.int .i64 0] 30)) (.cells #[.int .i64 0] 3)) 0
  simp only [List.getElem?_toArray, List.getElem?_cons_zero] at hpc
  refine (callsIn_wide (n := 3)).1 ?_
  refine callsIn_of_wp_marks Tryd.func13 rfl trivial ?_ rfl
  simp only [Tryd.ntmps13, List.size_toArray, List.length_cons, List.length_nil, Nat.reduceAdd, Nat.reduceSub, Array.replicate_succ, Array.replicate_zero, List.push_toArray, List.append_toArray, List.nil_append, List.cons_append]
  gi_wp2_with (refine ⟨trivial, ?_⟩; gi_at_call 19; refine (hplaced _ _).mono ?_; rintro e_ w3 ⟨rfl, rfl⟩)
  obtain ⟨W3, hW3⟩ : ∃ W3, W3 = ((((w.alloc (.cells #[.pointer (some ⟨Bp, 0, none⟩)] 43)).alloc (.cells #[.int .i64 0] 3)).alloc (.cells #[.int .i64 0] 30)).alloc (.cells #[.int .i64 0] 3)).alloc (.cells #[.slice A xs.length c] 22) := ⟨_, rfl⟩
  rw [← hW3]
  have hsz : W3.heap.size = w.heap.size + 5 := by rw [hW3]; simp
  have hB : Below w.heap.size w W3 := by rw [hW3]; exact below_alloc (below_alloc (below_alloc (below_alloc (below_alloc (Below.refl _ w) _) _) _) _) _
  have hb1 : Boxed W3 w.heap.size 43 (.pointer (some ⟨Bp, 0, none⟩)) := by rw [hW3]; exact blk_alloc (blk_alloc (blk_alloc (blk_alloc (blk_new1 _ _ _ rfl) _) _) _) _
  have hb2 : Boxed W3 (w.heap.size + 1) 3 (.int .i64 0) := by rw [hW3]; exact blk_alloc (blk_alloc (blk_alloc (blk_new1 _ _ _ (by simp)) _) _) _
  have hb3 : Boxed W3 (w.heap.size + 2) 30 (.int .i64 0) := by rw [hW3]; exact blk_alloc (blk_alloc (blk_new1 _ _ _ (by simp)) _) _
  have hb4 : Boxed W3 (w.heap.size + 3) 3 (.int .i64 0) := by rw [hW3]; exact blk_alloc (blk_new1 _ _ _ (by simp)) _
  have hb5 : W3.heap[w.heap.size + 4]? = some (.cells #[.slice A xs.length c] 22 (0, 0)) := by rw [hW3]; exact blk_new1 _ _ _ (by simp)
  have hB3 : Below n₀ w0 W3 := hb.trans (hB.mono (by omega))
  have hp3 : W3.heap[Bp]? = some (.cells #[.slice A xs.length c, .map (some M), ov] 46 (0, 0)) := (hB.block Bp hpl).trans hp
  have hM3 : Mp.Is Mp.encS Mp.encN W3 M ([] : Marks) := hM.step (hB.block M hMl)
  have hBn : Below n₀ w W3 := hB.mono (by omega)
  have hseq := placed_stopsG wfP 2 (by decide) (w.heap.size + 4) c n₀ (fun i => i = w.heap.size + 3) A xs w0 W3 hr hn0 hB3 hwf hb5 (by omega) (fun i h => by omega)
  clear hW3 hplaced hb5 hpc hp hM hb
  refine wpIn_rangeFunc_ownH rfl (by decide) (gf := 32) (lb := #[.pointer (some ⟨w.heap.size + 4, 0, none⟩)]) rfl trivial (enters_of Tryd.func32 (by kernel_rfl) rfl) hseq (fun h k => KeepT.trans h k) (KeepT.putObj (by omega)) (Below.refl _ _) (fun _ => rfl)
    (fun pre W => ((∃ m, okL (vals pre) [] = some m ∧ Mp.Is Mp.encS Mp.encN W M m) ∧ Boxed W w.heap.size 43 (.pointer (some ⟨Bp, 0, none⟩)) ∧ Boxed W (w.heap.size + 1) 3 (.int .i64 0) ∧ Boxed W (w.heap.size + 2) 30 (.int .i64 0) ∧ Boxed W (w.heap.size + 3) 3 (.int .i64 pre.length) ∧ W.heap[Bp]? = some (.cells #[.slice A xs.length c, .map (some M), ov] 46 (0, 0)) ∧ w.heap.size + 5 ≤ W.heap.size) ∧ Below n₀ w W)
    (fun cd pre W => (cd = .ret ∧ (∃ (q : List El) (z : El) (m : Marks), pre = q ++ [z] ∧ okL (vals q) [] = some m ∧ stepE m z.1 ≠ 0 ∧ Mp.Is Mp.encS Mp.encN W M m ∧ Boxed W (w.heap.size + 1) 3 (.int .i64 q.length) ∧ Boxed W (w.heap.size + 2) 30 (.int .i64 (stepE m z.1))) ∧ W.heap[Bp]? = some (.cells #[.slice A xs.length c, .map (some M), ov] 46 (0, 0)) ∧ w.heap.size + 5 ≤ W.heap.size) ∧ Below n₀ w W)
    ?own ?ownx ?start
    (fun x a' W => ∃ q : Nat, a' = { tmps := #[.pointer (some ⟨Bp, 0, none⟩), .pointer (some ⟨w.heap.size, 0, none⟩), .pointer (some ⟨w.heap.size + 1, 0, none⟩), .pointer (some ⟨w.heap.size + 2, 0, none⟩), .pointer (some ⟨w.heap.size + 3, 0, none⟩), .int .i64 x.1.1, .pointer (some ⟨q, 0, none⟩), undef, undef, .pointer (some ⟨Bp, 0, none⟩), .pointer (some ⟨Bp, 0, none⟩), .pointer (some ⟨Bp, 0, none⟩), .slice A xs.length c, .func (.func 32) #[] #[.pointer (some ⟨w.heap.size + 4, 0, none⟩)], .int .i64 x.1.1, .agg (lineC x.1.2), undef, undef, undef, undef, undef, undef, undef, undef, undef, undef, undef, undef, undef, undef, undef, undef, undef, undef, undef, undef, undef, undef, undef, undef, undef, undef, undef, undef, undef, undef, undef, undef, undef], defers := [] } ∧ W.heap[q]? = some (.cells (lineC x.1.2) 28 (0, 0)) ∧ w.heap.size + 5 ≤ q)
    (fun x a' => Own.from (fun s X Y row hs hg hr => (let ⟨q, h1, h2, h3⟩ := hs; ⟨q, h1, blk_own (β := Unit) q _ _ () X Y row h2 hg hr, h3⟩)) _) ?assign ?body ?done ?stop
  case own =>
    exact OwnFrom.and (fun s X Y row hs hg hr => (let ⟨⟨m, h1, h2⟩, h3, h4, h5, h6, h7, h8⟩ := hs; ⟨⟨m, h1, own_map hg hr (by omega) h2⟩, own_keep hg hr (by omega) h3, own_keep hg hr (by omega) h4, own_keep hg hr (by omega) h5, own_keep hg hr (by omega) h6, own_keep hg hr (by omega) h7, Nat.le_trans h8 hg.size⟩)) (ownFrom_below (by omega) (by omega))
  case ownx =>
    exact fun cd => OwnFrom.and (fun s X Y row hs hg hr => (let ⟨h0, ⟨q, z, m, h1, h2, h3, h4, h5, h6⟩, h7, h8⟩ := hs; ⟨h0, ⟨q, z, m, h1, h2, h3, own_map hg hr (by omega) h4, own_keep hg hr (by omega) h5, own_keep hg hr (by omega) h6⟩, own_keep hg hr (by omega) h7, Nat.le_trans h8 hg.size⟩)) (ownFrom_below (by omega) (by omega))
  case start => exact ⟨⟨⟨[], rfl, hM3⟩, hb1, hb2, hb3, hb4, hp3, by omega⟩, hBn⟩
  case assign =>
    intro l pre x W K hI hK
    obtain ⟨⟨⟨m, hm1, hm2⟩, hv1, hv2, hv3, hv4, hvp, hsW⟩, hBW⟩ := hI
    unfold lineC
    gi_wp2
    exact hK _ _ (KeepsFrom.of_grownBy (World.grownBy_alloc W _ none) (fun j e => by cases e)) (KeepT.of_below (below_alloc (Below.refl _ _) _) (by omega)) ⟨⟨⟨m, hm1, hm2.below (below_alloc (Below.refl _ _) _)⟩, blk_alloc hv1 _, blk_alloc hv2 _, blk_alloc hv3 _, blk_alloc hv4 _, blk_alloc hvp _, by simp; omega⟩, hBW.alloc (by omega) _⟩ ⟨W.heap.size, rfl, blk_new W _, by omega⟩
  case body =>
    rintro lp pre x a' W hl hex ⟨⟨⟨m, hm1, hm2⟩, hv1, hv2, hv3, hv4, hvp, hsW⟩, hBW⟩ ⟨q, rfl, hq, hqn⟩ hlen
    obtain ⟨x, hx⟩ := x
    have hxx := hx.2
    replace hq : W.heap[q]? = some (.cells (lineC x.2) 28 (0, 0)) := hq
    have hgood := fun n W => CallsIn.inRound lp ((callsIn_wide (n := n)).2 (good_any x.2 hxx W))
    have hstep : stepE m x = (if goodB x.2 = true then (if x.2.f0.toList = ([] : List UInt8) then (if x.1 = 4096 then 6 else 0) else (if Mp.hasL x.2.f0 m = true then 12 else 0)) else 11) := rfl
    have hq0 : W.cell? ⟨q, 0, none⟩ = some (.string x.2.f0) := (blk_cell hq 0).trans rfl
    have hq1 : W.cell? ⟨q, 1, none⟩ = some (.int .i64 x.2.f1.f0) := (blk_cell hq 1).trans rfl
    have hq2 : W.cell? ⟨q, 2, none⟩ = some (.int .i64 x.2.f1.f1) := (blk_cell hq 2).trans rfl
    have hq3 : W.cell? ⟨q, 3, none⟩ = some (.int .i64 x.2.f1.f2) := (blk_cell hq 3).trans rfl
    have hq4 : W.cell? ⟨q, 4, none⟩ = some (.int .i64 x.2.f1.f3) := (blk_cell hq 4).trans rfl
    have hq5 : W.cell? ⟨q, 5, none⟩ = some (.int .i32 x.2.f1.f4) := (blk_cell hq 5).trans rfl
    have hq6 : W.cell? ⟨q, 6, none⟩ = some (.string x.2.f2) := (blk_cell hq 6).trans rfl
    have HQ := Lib.hid hq
    have HV1 := Lib.hid hv1
    have HV2 := Lib.hid hv2
    have HV3 := Lib.hid hv3
    have HV4 := Lib.hid hv4
    have HVP := Lib.hid hvp
    have HBW := Lib.hid hBW
    have HM1 := Lib.hid hm1
    have HM2 := Lib.hid hm2
    have HST := Lib.hid hstep
    have hu28 := Tryd.underlying28
    have hmx : Tryd.prog.follows .mixedOrders = true := by kernel_rfl
    have hp40 : pre.length < 1099511627776 := by omega
    clear hq hv1 hv2 hv3 hv4 hvp hBW hm1 hm2 hstep hseq hb1 hb2 hb3 hb4 hp3 hM3 hB3 hBn hB hex hr hwf
    unfold lineC at *
    dsimp only
    have hmn : M ≠ w.heap.size + 1 ∧ M ≠ w.heap.size + 2 ∧ M ≠ w.heap.size + 3 := by omega
    have HMN1 := Lib.hid hmn.1
    have HMN2 := Lib.hid hmn.2.1
    have HMN3 := Lib.hid hmn.2.2
    clear hmn
    cases g : goodB x.2 with
    | false =>
      have HE : Hid (stepE m x = 11) := Lib.hid (by rw [HST.out, g]; rfl)
      gi_wp2_with (refine ⟨trivial, ?_⟩; gi_at_call 23; refine (hgood _ _).mono ?_; rintro e_ w2 ⟨rfl, hb2⟩; rw [g]; have hk4 : w2.cell? ⟨w.heap.size + 3, 0, none⟩ = some (.int .i64 pre.length) := (blk_cell (blk_below HV4.out hb2) 0).trans rfl; have hk2 : w2.cell? ⟨w.heap.size + 1, 0, none⟩ = some (.int .i64 0) := (blk_cell (blk_below HV2.out hb2) 0).trans rfl; have hk3 : w2.cell? ⟨w.heap.size + 2, 0, none⟩ = some (.int .i64 0) := (blk_cell (blk_below HV3.out hb2) 0).trans rfl; have hf2 := blk_frozen (blk_below HV2.out hb2) 0; have hf3 := blk_frozen (blk_below HV3.out hb2) 0; have hf4 := blk_frozen (blk_below HV4.out hb2) 0; have hs2 := hb2.size; have hq20 : w2.cell? ⟨q, 0, none⟩ = some (.string x.2.f0) := (blk_cell (blk_below HQ.out hb2) 0).trans rfl; have hp21 : w2.cell? ⟨Bp, 1, none⟩ = some (.map (some M)) := (blk_cell (blk_below HVP.out hb2) 1).trans rfl; have hk1 : w2.cell? ⟨w.heap.size, 0, none⟩ = some (.pointer (some ⟨Bp, 0, none⟩)) := (blk_cell (blk_below HV1.out hb2) 0).trans rfl)
      have hM' : Mp.Is Mp.encS Mp.encN ((w2.setCell ⟨w.heap.size + 1, 0, none⟩ (.int .i64 pre.length)).setCell ⟨w.heap.size + 2, 0, none⟩ (.int .i64 (stepE m x))) M m := ((HM2.out.below hb2).step (Below.heap_setCell _ _ _ _ HMN1.out)).step (Below.heap_setCell _ _ _ _ HMN2.out)
      rw [HE.out] at hM'
      refine ⟨((KeepsFrom.of_grownBy (grown_of_below hb2 none) (fun j e => by cases e)).trans ((KeepsOthers.setCell _ _ _).from _)).trans ((KeepsOthers.setCell _ _ _).from _), ⟨rfl, ⟨pre, ⟨x, hx⟩, m, rfl, HM1.out, (by dsimp only; rw [HE.out]; decide), hM', ((boxB HV2.out hb2).set _).other (by omega) _, (by dsimp only; rw [HE.out]; exact ((boxB HV3.out hb2).other (by omega) _).set _)⟩, ((Below.heap_setCell _ _ _ _ (by dsimp only; omega)).trans (Below.heap_setCell _ _ _ _ (by dsimp only; omega))).trans (blk_below HVP.out hb2), by simp; omega⟩, ((HBW.out.trans (hb2.mono (by omega))).setCell (p := ⟨w.heap.size + 1, 0, none⟩) (by dsimp only; omega) _).setCell (p := ⟨w.heap.size + 2, 0, none⟩) (by dsimp only; omega) _⟩
    | true =>
      by_cases hmk : x.2.f0.toList = []
      · have hmk2 : x.2.f0.toList.isEmpty = true := by rw [hmk]; rfl
        have hsm : stepM m x = m := by unfold stepM; rw [if_pos hmk]
        have HSM := Lib.hid hsm
        clear hsm
        rcases h4 : (x.1 == 4096) with _ | _
        · have h5 : ¬ x.1 = 4096 := by simpa using h4
          have HE : Hid (stepE m x = 0) := Lib.hid (by rw [HST.out, g, if_pos rfl, if_pos hmk, if_neg h5])
          clear h5
          gi_wp2_with (refine ⟨trivial, ?_⟩; gi_at_call 23; refine (hgood _ _).mono ?_; rintro e_ w2 ⟨rfl, hb2⟩; rw [g]; have hk4 : w2.cell? ⟨w.heap.size + 3, 0, none⟩ = some (.int .i64 pre.length) := (blk_cell (blk_below HV4.out hb2) 0).trans rfl; have hk2 : w2.cell? ⟨w.heap.size + 1, 0, none⟩ = some (.int .i64 0) := (blk_cell (blk_below HV2.out hb2) 0).trans rfl; have hk3 : w2.cell? ⟨w.heap.size + 2, 0, none⟩ = some (.int .i64 0) := (blk_cell (blk_below HV3.out hb2) 0).trans rfl; have hf2 := blk_frozen (blk_below HV2.out hb2) 0; have hf3 := blk_frozen (blk_below HV3.out hb2) 0; have hf4 := blk_frozen (blk_below HV4.out hb2) 0; have hs2 := hb2.size; have hq20 : w2.cell? ⟨q, 0, none⟩ = some (.string x.2.f0) := (blk_cell (blk_below HQ.out hb2) 0).trans rfl; have hp21 : w2.cell? ⟨Bp, 1, none⟩ = some (.map (some M)) := (blk_cell (blk_below HVP.out hb2) 1).trans rfl; have hk1 : w2.cell? ⟨w.heap.size, 0, none⟩ = some (.pointer (some ⟨Bp, 0, none⟩)) := (blk_cell (blk_below HV1.out hb2) 0).trans rfl)
          refine ⟨(KeepsFrom.of_grownBy (grown_of_below hb2 none) (fun j e => by cases e)).trans ((KeepsOthers.setCell _ _ _).from _), (KeepT.of_below hb2 (by omega)).trans (KeepT.set _ _ _ _ (by omega) rfl), ⟨⟨m, ?_, (HM2.out.below hb2).step (Below.heap_setCell _ _ _ _ HMN3.out)⟩, (boxB HV1.out hb2).other (by omega) _, (boxB HV2.out hb2).other (by omega) _, (boxB HV3.out hb2).other (by omega) _, ?_, (Below.heap_setCell _ _ _ _ (by dsimp only; omega)).trans (blk_below HVP.out hb2), by simp; omega⟩, (HBW.out.trans (hb2.mono (by omega))).setCell (p := ⟨w.heap.size + 3, 0, none⟩) (by dsimp only; omega) _⟩
          · have := okL_snoc x HM1.out HE.out
            rw [HSM.out] at this
            simpa [vals] using this
          · have := (boxB HV4.out hb2).set (.int .i64 ((pre.length + 1 : Nat) : Int))
            simpa using this
        · have h5 : x.1 = 4096 := by simpa using h4
          have HE : Hid (stepE m x = 6) := Lib.hid (by rw [HST.out, g, if_pos rfl, if_pos hmk, if_pos h5])
          clear h5
          gi_wp2_with (refine ⟨trivial, ?_⟩; gi_at_call 23; refine (hgood _ _).mono ?_; rintro e_ w2 ⟨rfl, hb2⟩; rw [g]; have hk4 : w2.cell? ⟨w.heap.size + 3, 0, none⟩ = some (.int .i64 pre.length) := (blk_cell (blk_below HV4.out hb2) 0).trans rfl; have hk2 : w2.cell? ⟨w.heap.size + 1, 0, none⟩ = some (.int .i64 0) := (blk_cell (blk_below HV2.out hb2) 0).trans rfl; have hk3 : w2.cell? ⟨w.heap.size + 2, 0, none⟩ = some (.int .i64 0) := (blk_cell (blk_below HV3.out hb2) 0).trans rfl; have hf2 := blk_frozen (blk_below HV2.out hb2) 0; have hf3 := blk_frozen (blk_below HV3.out hb2) 0; have hf4 := blk_frozen (blk_below HV4.out hb2) 0; have hs2 := hb2.size; have hq20 : w2.cell? ⟨q, 0, none⟩ = some (.string x.2.f0) := (blk_cell (blk_below HQ.out hb2) 0).trans rfl; have hp21 : w2.cell? ⟨Bp, 1, none⟩ = some (.map (some M)) := (blk_cell (blk_below HVP.out hb2) 1).trans rfl; have hk1 : w2.cell? ⟨w.heap.size, 0, none⟩ = some (.pointer (some ⟨Bp, 0, none⟩)) := (blk_cell (blk_below HV1.out hb2) 0).trans rfl)
          have hM' : Mp.Is Mp.encS Mp.encN ((w2.setCell ⟨w.heap.size + 1, 0, none⟩ (.int .i64 pre.length)).setCell ⟨w.heap.size + 2, 0, none⟩ (.int .i64 (stepE m x))) M m := ((HM2.out.below hb2).step (Below.heap_setCell _ _ _ _ HMN1.out)).step (Below.heap_setCell _ _ _ _ HMN2.out)
          rw [HE.out] at hM'
          refine ⟨((KeepsFrom.of_grownBy (grown_of_below hb2 none) (fun j e => by cases e)).trans ((KeepsOthers.setCell _ _ _).from _)).trans ((KeepsOthers.setCell _ _ _).from _), ⟨rfl, ⟨pre, ⟨x, hx⟩, m, rfl, HM1.out, (by dsimp only; rw [HE.out]; decide), hM', ((boxB HV2.out hb2).set _).other (by omega) _, (by dsimp only; rw [HE.out]; exact ((boxB HV3.out hb2).other (by omega) _).set _)⟩, ((Below.heap_setCell _ _ _ _ (by dsimp only; omega)).trans (Below.heap_setCell _ _ _ _ (by dsimp only; omega))).trans (blk_below HVP.out hb2), by simp; omega⟩, ((HBW.out.trans (hb2.mono (by omega))).setCell (p := ⟨w.heap.size + 1, 0, none⟩) (by dsimp only; omega) _).setCell (p := ⟨w.heap.size + 2, 0, none⟩) (by dsimp only; omega) _⟩
      · have hmk2 : x.2.f0.toList.isEmpty = false := by cases e : x.2.f0.toList with | nil => exact absurd e hmk | cons a b => rfl
        have hsm : stepM m x = Mp.putL x.2.f0 x.1 m := by unfold stepM; rw [if_neg hmk]
        have HSM := Lib.hid hsm
        clear hsm
        gi_upto_region 11 with (refine ⟨trivial, ?_⟩; gi_at_call 23; refine (hgood _ _).mono ?_; rintro e_ w2 ⟨rfl, hb2⟩; rw [g]; have hk4 : w2.cell? ⟨w.heap.size + 3, 0, none⟩ = some (.int .i64 pre.length) := (blk_cell (blk_below HV4.out hb2) 0).trans rfl; have hk2 : w2.cell? ⟨w.heap.size + 1, 0, none⟩ = some (.int .i64 0) := (blk_cell (blk_below HV2.out hb2) 0).trans rfl; have hk3 : w2.cell? ⟨w.heap.size + 2, 0, none⟩ = some (.int .i64 0) := (blk_cell (blk_below HV3.out hb2) 0).trans rfl; have hf2 := blk_frozen (blk_below HV2.out hb2) 0; have hf3 := blk_frozen (blk_below HV3.out hb2) 0; have hf4 := blk_frozen (blk_below HV4.out hb2) 0; have hs2 := hb2.size; have hq20 : w2.cell? ⟨q, 0, none⟩ = some (.string x.2.f0) := (blk_cell (blk_below HQ.out hb2) 0).trans rfl; have hp21 : w2.cell? ⟨Bp, 1, none⟩ = some (.map (some M)) := (blk_cell (blk_below HVP.out hb2) 1).trans rfl; have hk1 : w2.cell? ⟨w.heap.size, 0, none⟩ = some (.pointer (some ⟨Bp, 0, none⟩)) := (blk_cell (blk_below HV1.out hb2) 0).trans rfl)
        have hM2 := HM2.out.below hb2
        have hlk := Mp.lookup_ok_run Tryd.underlying44 Mp.key9 (encE := Mp.encN) Mp.zero3 (W := w2.drew) (hM2.step rfl) x.2.f0
        unfold Mp.encS Mp.encN at hlk
        have HM2' := Lib.hid hM2
        clear hM2
        gi_cut [7, 8] from 28 (fun v7 v8 wx => v7 = .int .i64 (Mp.getL x.2.f0 0 m) ∧ v8 = .bool (Mp.hasL x.2.f0 m) ∧ wx = w2.drew)
        case first =>
          refine Rh.start (fun wx => wx.cell? ⟨w.heap.size, 0, none⟩ = some (.pointer (some ⟨Bp, 0, none⟩)) ∧ wx.cell? ⟨Bp, 1, none⟩ = some (.map (some M)) ∧ wx.cell? ⟨q, 0, none⟩ = some (.string x.2.f0) ∧ (Instr.lookup 44 (.map (some M)) (.string x.2.f0) true).run Tryd.prog wx = .ok (.tuple #[.int .i64 (Mp.getL x.2.f0 0 m), .bool (Mp.hasL x.2.f0 m)]) wx) (fun _ => false) hmx ?_
          have hS : w2.drew.cell? ⟨w.heap.size, 0, none⟩ = some (.pointer (some ⟨Bp, 0, none⟩)) ∧ w2.drew.cell? ⟨Bp, 1, none⟩ = some (.map (some M)) ∧ w2.drew.cell? ⟨q, 0, none⟩ = some (.string x.2.f0) ∧ (Instr.lookup 44 (.map (some M)) (.string x.2.f0) true).run Tryd.prog w2.drew = .ok (.tuple #[.int .i64 (Mp.getL x.2.f0 0 m), .bool (Mp.hasL x.2.f0 m)]) w2.drew := ⟨hk1, hp21, hq20, hlk⟩
          refine Rh.take (i := 0) (v := ?_) (Rh.noDefer_of (by kernel_rfl)) (Rh.last_of (by kernel_rfl)) rfl (by kernel_rfl) (by kernel_rfl) (by kernel_rfl) (fun _ _ _ h => h) hS rfl (fun _ => rfl) ?hy0 29 rfl ?more0
          case hy0 => (rintro wx ⟨h1, h2, h3, h4⟩; go_simp; first | done | with_reducible rfl)
          simp only [Act.put, List.setIfInBounds_toArray, List.set_cons_zero, List.set_cons_succ]
          refine Rh.take (i := 1) (v := ?_) (Rh.noDefer_of (by kernel_rfl)) (Rh.last_of (by kernel_rfl)) rfl (by kernel_rfl) (by kernel_rfl) (by kernel_rfl) (fun _ _ _ h => h) hS rfl (fun _ => rfl) ?hy1 30 rfl ?more1
          case hy1 => (rintro wx ⟨h1, h2, h3, h4⟩; go_simp; first | done | with_reducible rfl)
          simp only [Act.put, List.setIfInBounds_toArray, List.set_cons_zero, List.set_cons_succ]
          refine Rh.take (i := 2) (v := ?_) (Rh.noDefer_of (by kernel_rfl)) (Rh.last_of (by kernel_rfl)) rfl (by kernel_rfl) (by kernel_rfl) (by kernel_rfl) (fun _ _ _ h => h) hS rfl (fun _ => rfl) ?hy2 31 rfl ?more2
          case hy2 => (rintro wx ⟨h1, h2, h3, h4⟩; go_simp; first | done | with_reducible rfl)
          simp only [Act.put, List.setIfInBounds_toArray, List.set_cons_zero, List.set_cons_succ]
          refine Rh.take (i := 3) (v := ?_) (Rh.noDefer_of (by kernel_rfl)) (Rh.last_of (by kernel_rfl)) rfl (by kernel_rfl) (by kernel_rfl) (by kernel_rfl) (fun _ _ _ h => h) hS rfl (fun _ => rfl) ?hy3 32 rfl ?more3
          case hy3 => (rintro wx ⟨h1, h2, h3, h4⟩; go_simp; first | done | with_reducible rfl)
          simp only [Act.put, List.setIfInBounds_toArray, List.set_cons_zero, List.set_cons_succ]
          refine Rh.take (i := 4) (v := ?_) (Rh.noDefer_of (by kernel_rfl)) (Rh.last_of (by kernel_rfl)) rfl (by kernel_rfl) (by kernel_rfl) (by kernel_rfl) (fun _ _ _ h => h) hS rfl (fun _ => rfl) ?hy4 33 rfl ?more4
          case hy4 => (rintro wx ⟨h1, h2, h3, h4⟩; go_simp; first | done | with_reducible rfl)
          simp only [Act.put, List.setIfInBounds_toArray, List.set_cons_zero, List.set_cons_succ]
          refine Rh.take (i := 5) (v := ?_) (Rh.noDefer_of (by kernel_rfl)) (Rh.last_of (by kernel_rfl)) rfl (by kernel_rfl) (by kernel_rfl) (by kernel_rfl) (fun _ _ _ h => h) hS rfl (fun _ => rfl) ?hy5 34 rfl ?more5
          case hy5 => (rintro wx ⟨h1, h2, h3, h4⟩; go_simp; first | done | with_reducible rfl)
          simp only [Act.put, List.setIfInBounds_toArray, List.set_cons_zero, List.set_cons_succ]
          refine Rh.take (i := 6) (v := ?_) (Rh.noDefer_of (by kernel_rfl)) (Rh.last_of (by kernel_rfl)) rfl (by kernel_rfl) (by kernel_rfl) (by kernel_rfl) (fun _ _ _ h => h) hS rfl (fun _ => rfl) ?hy6 35 rfl ?more6
          case hy6 => (rintro wx ⟨h1, h2, h3, h4⟩; go_simp; first | done | with_reducible rfl)
          simp only [Act.put, List.setIfInBounds_toArray, List.set_cons_zero, List.set_cons_succ]
          refine Rh.take (i := 7) (v := ?_) (Rh.noDefer_of (by kernel_rfl)) (Rh.last_of (by kernel_rfl)) rfl (by kernel_rfl) (by kernel_rfl) (by kernel_rfl) (fun _ _ _ h => h) hS rfl (fun _ => rfl) ?hy7 28 rfl ?more7
          case hy7 => (rintro wx ⟨h1, h2, h3, h4⟩; go_simp; first | done | with_reducible rfl)
          simp only [Act.put, List.setIfInBounds_toArray, List.set_cons_zero, List.set_cons_succ]
          refine Rh.take (i := 8) (v := ?_) (Rh.noDefer_of (by kernel_rfl)) (Rh.last_of (by kernel_rfl)) rfl (by kernel_rfl) (by kernel_rfl) (by kernel_rfl) (fun _ _ _ h => h) hS rfl (fun _ => rfl) ?hy8 36 rfl ?more8
          case hy8 => (rintro wx ⟨h1, h2, h3, h4⟩; go_simp; first | done | with_reducible rfl)
          simp only [Act.put, List.setIfInBounds_toArray, List.set_cons_zero, List.set_cons_succ]
          refine Rh.take (i := 9) (v := ?_) (Rh.noDefer_of (by kernel_rfl)) (Rh.last_of (by kernel_rfl)) rfl (by kernel_rfl) (by kernel_rfl) (by kernel_rfl) (fun _ _ _ h => h) hS rfl (fun _ => rfl) ?hy9 37 rfl ?more9
          case hy9 => (rintro wx ⟨h1, h2, h3, h4⟩; go_simp; first | done | with_reducible rfl)
          simp only [Act.put, List.setIfInBounds_toArray, List.set_cons_zero, List.set_cons_succ]
          refine Rh.take (i := 10) (v := ?_) (Rh.noDefer_of (by kernel_rfl)) (Rh.last_of (by kernel_rfl)) rfl (by kernel_rfl) (by kernel_rfl) (by kernel_rfl) (fun _ _ _ h => h) hS rfl (fun _ => rfl) ?hy10 7 rfl ?more10
          case hy10 => (rintro wx ⟨h1, h2, h3, h4⟩; go_simp; first | done | with_reducible rfl)
          simp only [Act.put, List.setIfInBounds_toArray, List.set_cons_zero, List.set_cons_succ]
          refine Rh.take (i := 11) (v := ?_) (Rh.noDefer_of (by kernel_rfl)) (Rh.last_of (by kernel_rfl)) rfl (by kernel_rfl) (by kernel_rfl) (by kernel_rfl) (fun _ _ _ h => h) hS rfl (fun _ => rfl) ?hy11 8 rfl ?more11
          case hy11 => (rintro wx ⟨h1, h2, h3, h4⟩; go_simp; first | done | with_reducible rfl)
          simp only [Act.put, List.setIfInBounds_toArray, List.set_cons_zero, List.set_cons_succ]
          refine Rh.done (by kernel_rfl) ?_ _
          gi_wp2_with fail
          gi_meet
          case rel => exact ⟨rfl, rfl, rfl⟩
        case rest =>
          obtain ⟨rfl, rfl, rfl⟩ := hcut
          clear hlk
          cases hh : Mp.hasL x.2.f0 m with
          | true =>
            have HE : Hid (stepE m x = 12) := Lib.hid (by rw [HST.out, g, if_pos rfl, if_neg hmk, if_pos hh])
            gi_wp2
            have hM' : Mp.Is Mp.encS Mp.encN (((w2.setCell ⟨w.heap.size + 1, 0, none⟩ (.int .i64 pre.length)).setCell ⟨w.heap.size + 2, 0, none⟩ (.int .i64 12)).drew) M m := ((HM2'.out.step (Below.heap_setCell _ _ _ _ HMN1.out)).step (Below.heap_setCell _ _ _ _ HMN2.out)).step rfl
            refine ⟨(((KeepsFrom.of_grownBy (grown_of_below hb2 none) (fun j e => by cases e)).trans ((KeepsOthers.setCell _ _ _).from _)).trans ((KeepsOthers.setCell _ _ _).from _)).trans (KeepsFrom.of_grownBy (grown_of_below (below_drew1 (Below.refl _ _)) none) (fun j e => by cases e)), ⟨rfl, ⟨pre, ⟨x, hx⟩, m, rfl, HM1.out, (by dsimp only; rw [HE.out]; decide), hM', ((boxB HV2.out hb2).set _).other (by omega) _, (by dsimp only; rw [HE.out]; exact ((boxB HV3.out hb2).other (by omega) _).set _)⟩, ((Below.heap_setCell _ _ _ _ (by dsimp only; omega)).trans (Below.heap_setCell _ _ _ _ (by dsimp only; omega))).trans (blk_below HVP.out hb2), by simp; omega⟩, below_drew1 (((HBW.out.trans (hb2.mono (by omega))).setCell (p := ⟨w.heap.size + 1, 0, none⟩) (by dsimp only; omega) _).setCell (p := ⟨w.heap.size + 2, 0, none⟩) (by dsimp only; omega) _)⟩
          | false =>
            have HE : Hid (stepE m x = 0) := Lib.hid (by rw [HST.out, g, if_pos rfl, if_neg hmk, if_neg (by rw [hh]; decide)])
            obtain ⟨es, clk, hup, hmm⟩ := Mp.mapUpdate_runs Tryd.underlying44 Mp.key9 (encE := Mp.encN) HM2'.out x.2.f0 x.1
            replace hup := hup w2.drew.drew rfl
            unfold Mp.encS Mp.encN at hup
            have HMM := Lib.hid hmm
            clear hmm
            gi_wp2
            refine Rh.start (fun wx => wx.cell? ⟨w.heap.size, 0, none⟩ = some (.pointer (some ⟨Bp, 0, none⟩)) ∧ wx.cell? ⟨Bp, 1, none⟩ = some (.map (some M)) ∧ wx.cell? ⟨q, 0, none⟩ = some (.string x.2.f0)) (fun i => i == 7) hmx ?_
            have hS : w2.drew.drew.cell? ⟨w.heap.size, 0, none⟩ = some (.pointer (some ⟨Bp, 0, none⟩)) ∧ w2.drew.drew.cell? ⟨Bp, 1, none⟩ = some (.map (some M)) ∧ w2.drew.drew.cell? ⟨q, 0, none⟩ = some (.string x.2.f0) := ⟨hk1, hp21, hq20⟩
            refine Rh.take (i := 0) (v := ?_) (Rh.noDefer_of (by kernel_rfl)) (Rh.last_of (by kernel_rfl)) rfl (by kernel_rfl) (by kernel_rfl) (by kernel_rfl) (fun _ _ _ h => h) hS rfl (fun _ => rfl) ?hz0 40 rfl ?mone0
            case hz0 => (rintro wx ⟨h1, h2, h3⟩; go_simp; first | done | with_reducible rfl)
            simp only [Act.put, List.setIfInBounds_toArray, List.set_cons_zero, List.set_cons_succ]
            refine Rh.take (i := 1) (v := ?_) (Rh.noDefer_of (by kernel_rfl)) (Rh.last_of (by kernel_rfl)) rfl (by kernel_rfl) (by kernel_rfl) (by kernel_rfl) (fun _ _ _ h => h) hS rfl (fun _ => rfl) ?hz1 41 rfl ?mone1
            case hz1 => (rintro wx ⟨h1, h2, h3⟩; go_simp; first | done | with_reducible rfl)
            simp only [Act.put, List.setIfInBounds_toArray, List.set_cons_zero, List.set_cons_succ]
            refine Rh.take (i := 2) (v := ?_) (Rh.noDefer_of (by kernel_rfl)) (Rh.last_of (by kernel_rfl)) rfl (by kernel_rfl) (by kernel_rfl) (by kernel_rfl) (fun _ _ _ h => h) hS rfl (fun _ => rfl) ?hz2 42 rfl ?mone2
            case hz2 => (rintro wx ⟨h1, h2, h3⟩; go_simp; first | done | with_reducible rfl)
            simp only [Act.put, List.setIfInBounds_toArray, List.set_cons_zero, List.set_cons_succ]
            refine Rh.take (i := 3) (v := ?_) (Rh.noDefer_of (by kernel_rfl)) (Rh.last_of (by kernel_rfl)) rfl (by kernel_rfl) (by kernel_rfl) (by kernel_rfl) (fun _ _ _ h => h) hS rfl (fun _ => rfl) ?hz3 43 rfl ?mone3
            case hz3 => (rintro wx ⟨h1, h2, h3⟩; go_simp; first | done | with_reducible rfl)
            simp only [Act.put, List.setIfInBounds_toArray, List.set_cons_zero, List.set_cons_succ]
            refine Rh.take (i := 4) (v := ?_) (Rh.noDefer_of (by kernel_rfl)) (Rh.last_of (by kernel_rfl)) rfl (by kernel_rfl) (by kernel_rfl) (by kernel_rfl) (fun _ _ _ h => h) hS rfl (fun _ => rfl) ?hz4 44 rfl ?mone4
            case hz4 => (rintro wx ⟨h1, h2, h3⟩; go_simp; first | done | with_reducible rfl)
            simp only [Act.put, List.setIfInBounds_toArray, List.set_cons_zero, List.set_cons_succ]
            refine Rh.take (i := 5) (v := ?_) (Rh.noDefer_of (by kernel_rfl)) (Rh.last_of (by kernel_rfl)) rfl (by kernel_rfl) (by kernel_rfl) (by kernel_rfl) (fun _ _ _ h => h) hS rfl (fun _ => rfl) ?hz5 45 rfl ?mone5
            case hz5 => (rintro wx ⟨h1, h2, h3⟩; go_simp; first | done | with_reducible rfl)
            simp only [Act.put, List.setIfInBounds_toArray, List.set_cons_zero, List.set_cons_succ]
            refine Rh.take (i := 6) (v := ?_) (Rh.noDefer_of (by kernel_rfl)) (Rh.last_of (by kernel_rfl)) rfl (by kernel_rfl) (by kernel_rfl) (by kernel_rfl) (fun _ _ _ h => h) hS rfl (fun _ => rfl) ?hz6 46 rfl ?mone6
            case hz6 => (rintro wx ⟨h1, h2, h3⟩; go_simp; first | done | with_reducible rfl)
            simp only [Act.put, List.setIfInBounds_toArray, List.set_cons_zero, List.set_cons_succ]
            refine Rh.one (i := 7) rfl (by kernel_rfl) rfl ?_
            go_simp
            have hMo : ∃ es0 c0, w2.drew.drew.heap[M]? = some (.map es0 c0) := (let ⟨es0, c0, h, _⟩ := HM2'.out; ⟨es0, c0, h⟩)
            obtain ⟨es0, c0, hMo⟩ := hMo
            have hb3 : Below W.heap.size W w2.drew.drew := below_drew1 (below_drew1 hb2)
            have e1 : Boxed (w2.drew.drew.putObj M (.map es clk)) w.heap.size 43 (.pointer (some ⟨Bp, 0, none⟩)) := put_blk (by omega) (boxB HV1.out hb3)
            have e2 : Boxed (w2.drew.drew.putObj M (.map es clk)) (w.heap.size + 1) 3 (.int .i64 0) := put_blk HMN1.out (boxB HV2.out hb3)
            have e3 : Boxed (w2.drew.drew.putObj M (.map es clk)) (w.heap.size + 2) 30 (.int .i64 0) := put_blk HMN2.out (boxB HV3.out hb3)
            have e4 : Boxed (w2.drew.drew.putObj M (.map es clk)) (w.heap.size + 3) 3 (.int .i64 pre.length) := put_blk HMN3.out (boxB HV4.out hb3)
            have ep : (w2.drew.drew.putObj M (.map es clk)).heap[Bp]? = some (.cells #[.slice A xs.length c, .map (some M), ov] 46 (0, 0)) := put_blk (fun e => by subst e; have := blk_below HVP.out hb3; rw [hMo] at this; cases this) (blk_below HVP.out hb3)
            have eq : (w2.drew.drew.putObj M (.map es clk)).heap[q]? = some (.cells (lineC x.2) 28 (0, 0)) := put_blk (by omega) (blk_below HQ.out hb3)
            have eM : Mp.Is Mp.encS Mp.encN (w2.drew.drew.putObj M (.map es clk)) M (Mp.putL x.2.f0 x.1 m) := HMM.out _ (World.putObj_heap_same (Array.getElem?_eq_some_iff.1 hMo).1)
            have eB : Below n₀ w (w2.drew.drew.putObj M (.map es clk)) := (below_drew1 (below_drew1 (HBW.out.trans (hb2.mono (by omega))))).grown (grownBy_putObj' _ M _) (by simp; omega) (fun k e => by cases e; omega)
            have eK : KeepsFrom W3.heap.size W (w2.drew.drew.putObj M (.map es clk)) := ((KeepsFrom.of_grownBy (grown_of_below hb2 none) (fun j e => by cases e)).trans (KeepsFrom.of_grownBy (grown_of_below (below_drew1 (below_drew1 (Below.refl _ _))) none) (fun j e => by cases e))).trans (KeepsFrom.of_grownBy (grownBy_putObj' _ M _) (fun j e => by cases e; omega))
            have eT : KeepT n₀ (fun i => i = w.heap.size + 3) W (w2.drew.drew.putObj M (.map es clk)) := (((KeepT.of_below hb2 (by omega)).trans (KeepT.drew _)).trans (KeepT.drew _)).trans (KeepT.put _ M _ hMn hMo rfl)
            have eS : (w2.drew.drew.putObj M (.map es clk)).heap.size = w2.heap.size := by simp
            refine Rh.done (by kernel_rfl) ?_ _
            clear hup hS hk1 hk2 hk3 hk4 hf2 hf3 hf4 hp21 hq20 hMo HMM
            generalize w2.drew.drew.putObj M (.map es clk) = W5 at *
            have i4 := e4.cell
            have j4 := e4.frozen
            have E1 := Lib.hid e1
            have E2 := Lib.hid e2
            have E3 := Lib.hid e3
            have E4 := Lib.hid e4
            have EP := Lib.hid ep
            have EM := Lib.hid eM
            have EB := Lib.hid eB
            have EK := Lib.hid eK
            have ET := Lib.hid eT
            clear e1 e2 e3 e4 ep eq eM eB eK eT hb2 hb3
            gi_wp2
            refine ⟨EK.out.trans ((KeepsOthers.setCell _ _ _).from _), ET.out.trans (KeepT.set _ _ _ _ (by omega) rfl), ⟨⟨Mp.putL x.2.f0 x.1 m, ?_, EM.out.step (Below.heap_setCell _ _ _ _ HMN3.out)⟩, E1.out.other (by omega) _, E2.out.other (by omega) _, E3.out.other (by omega) _, ?_, (Below.heap_setCell _ _ _ _ (by dsimp only; omega)).trans EP.out, by simp; omega⟩, EB.out.setCell (p := ⟨w.heap.size + 3, 0, none⟩) (by dsimp only; omega) _⟩
            · have := okL_snoc x HM1.out HE.out
              rw [HSM.out] at this
              simpa [vals] using this
            · have := E4.out.set (.int .i64 ((pre.length + 1 : Nat) : Int))
              simpa using this
  case done =>
    rintro D ys W hD hS ⟨⟨⟨m, hm1, hm2⟩, hv1, hv2, hv3, hv4, hvp, hsW⟩, hBW⟩ hK
    have hS' : vals ys = placedL xs 0 := hS
    rw [hS'] at hm1
    have hfin := lookR_ok 0 hm1
    have hc2 := hv2.cell
    have hf2 := hv2.frozen
    have hc3 := hv3.cell
    have hf3 := hv3.frozen
    have hDM : D ≠ M := by omega
    have hDp : D ≠ Bp := by omega
    have HFIN := Lib.hid hfin
    have HVP := Lib.hid hvp
    have hM' : Mp.Is Mp.encS Mp.encN ((W.setCell ⟨w.heap.size + 1, 0, none⟩ (.int .i64 0)).setCell ⟨w.heap.size + 2, 0, none⟩ (.int .i64 0)) M m := (hm2.step (Below.heap_setCell _ _ _ _ (by dsimp only; omega))).step (Below.heap_setCell _ _ _ _ (by dsimp only; omega))
    have HM' := Lib.hid hM'
    clear hfin hm1 hm2 hS hS' hvp hM'
    gi_wp2
    have hw1 : Boxed ((W.setCell ⟨w.heap.size + 1, 0, none⟩ (.int .i64 0)).setCell ⟨w.heap.size + 2, 0, none⟩ (.int .i64 0)) (w.heap.size + 1) 3 (.int .i64 0) := (hv2.set _).other (by omega) _
    have hw2 : Boxed ((W.setCell ⟨w.heap.size + 1, 0, none⟩ (.int .i64 0)).setCell ⟨w.heap.size + 2, 0, none⟩ (.int .i64 0)) (w.heap.size + 2) 30 (.int .i64 0) := (hv3.other (by omega) _).set _
    have hK' := ((KeepsOthers.setCell W ⟨w.heap.size + 1, 0, none⟩ (.int .i64 0)).trans (KeepsOthers.setCell _ ⟨w.heap.size + 2, 0, none⟩ (.int .i64 0))).same D _ hK rfl
    have hB' := (hBW.setCell (p := ⟨w.heap.size + 1, 0, none⟩) (by dsimp only; omega) (.int .i64 0)).setCell (p := ⟨w.heap.size + 2, 0, none⟩) (by dsimp only; omega) (.int .i64 0)
    refine ⟨by simp, .inl ⟨_, _, rfl, run_takeDeferred hK', ?_⟩⟩
    have hc5 := cell_kept hw1.cell (grownBy_putObj' _ D (.deferred none)) (fun r e => by cases e; exact ⟨_, hK', rfl⟩)
    have hc6 := cell_kept hw2.cell (grownBy_putObj' _ D (.deferred none)) (fun r e => by cases e; exact ⟨_, hK', rfl⟩)
    refine ⟨.tuple #[.int .i64 0, .int .i64 0], ?_, by rw [HFIN.out], hB'.grown (grownBy_putObj' _ D _) (by simp; omega) (fun k e => by cases e; omega), by simp; omega, ?_, by rw [HFIN.out]; exact HM'.out.step (World.putObj_heap_other (Ne.symm hDM))⟩
    · simp [results, Tryd.f13, go_sem, hc5, hc6]
    · rw [World.putObj_heap_other (Ne.symm hDp), Below.heap_setCell _ _ _ _ (by dsimp only; omega), Below.heap_setCell _ _ _ _ (by dsimp only; omega), HVP.out]
  case stop =>
    rintro D cd pre W hD hpre ⟨⟨rfl, ⟨q, z, m, rfl, hm1, hst, hm2, hv2, hv3⟩, hvp, hsW⟩, hBW⟩ hK
    have hpre' : vals (q ++ [z]) <+: placedL xs 0 := hpre
    obtain ⟨t, ht⟩ := hpre'
    have hfin := lookR_bad (b := t) 0 z.1 hm1 hst
    have e1 : placedL xs 0 = vals q ++ z.1 :: t := by rw [← ht]; simp [vals]
    rw [← e1] at hfin
    have hlq : (vals q).length = q.length := by simp [vals]
    rw [Nat.zero_add, hlq] at hfin
    have hDM : D ≠ M := by omega
    have hDp : D ≠ Bp := by omega
    have HFIN := Lib.hid hfin
    have HVP := Lib.hid hvp
    have HM' := Lib.hid hm2
    clear hfin hm1 hm2 hpre hvp ht e1 hlq
    gi_wp2
    refine ⟨by simp, .inl ⟨_, _, rfl, run_takeDeferred hK, ?_⟩⟩
    have hc5 := cell_kept hv2.cell (grownBy_putObj' _ D (.deferred none)) (fun r e => by cases e; exact ⟨_, hK, rfl⟩)
    have hc6 := cell_kept hv3.cell (grownBy_putObj' _ D (.deferred none)) (fun r e => by cases e; exact ⟨_, hK, rfl⟩)
    refine ⟨.tuple #[.int .i64 q.length, .int .i64 (stepE m z.1)], ?_, by rw [HFIN.out], hBW.grown (grownBy_putObj' _ D _) (by omega) (fun k e => by cases e; omega), by simp; omega, ?_, by rw [HFIN.out]; exact HM'.out.step (World.putObj_heap_other (Ne.symm hDM))⟩
    · simp [results, Tryd.f13, go_sem, hc5, hc6]
    · rw [World.putObj_heap_other (Ne.symm hDp), HVP.out]
end Go.Proofs.YtbelnkdbghggmaaDoor.X
