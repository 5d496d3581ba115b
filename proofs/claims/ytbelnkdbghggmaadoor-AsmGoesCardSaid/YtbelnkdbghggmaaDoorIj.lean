/- Contract of inst.Text. -/
import Derived.Test.YtbelnkdbghggmaaDoorIf
import Derived.Test.YtbelnkdbghggmaaDoorSh
import Derived.Lib.AppendIntMem
import Derived.Lib.ItoaLen
import Derived.Sort.CutIn
namespace Go.Proofs.YtbelnkdbghggmaaDoor.X
open Go.RowKit Go.Shelf Go.Proofs.YtbelnkdbghggmaaDoorW.PrintWords Go.Proofs.YtbelnkdbghggmaaDoorW.PrintLast
attribute [local go_sem] Oper.semAt_some
set_option linter.unusedVariables false
set_option linter.unusedSimpArgs false
/-- A number's decimal numeral. -/
def itoaB (n : Int) : ByteArray := ⟨(Lib.itoa n).toArray⟩
theorem itoaB_size (n : Int) (h0 : -9223372036854775808 ≤ n) (h1 : n ≤ 9223372036854775807) : (itoaB n).size ≤ 21 := by
  unfold itoaB
  rw [show (⟨(Lib.itoa n).toArray⟩ : ByteArray).size = (Lib.itoa n).length from by simp [ByteArray.size]]
  exact Lib.itoa_length_le n h0 h1
/-- Text behind one part more. -/
def tstep (op a b c e : Int) (s : ByteArray) (k : Nat) : ByteArray := if uses op k = true then (if letter k = 105 then s ++ ((⟨#[32]⟩ : ByteArray) ++ itoaB (num a b c e k)) else s ++ ((⟨#[32, 114]⟩ : ByteArray) ++ itoaB (num a b c e k))) else s
def textP (op a b c e : Int) (pre : List Nat) : ByteArray := pre.foldl (tstep op a b c e) (nameN op.toNat)
theorem textP_snoc (op a b c e : Int) (pre : List Nat) (x : Nat) : textP op a b c e (pre ++ [x]) = tstep op a b c e (textP op a b c e pre) x := by simp [textP]
abbrev Tab (w : World) : Prop := Lib.TabIs Tryd.prog w "internal/strconv.uint64pow10" .u64 Lib.pow10Tab
theorem tab_mono {w w' : World} (h : Tab w) (hb : Below w.heap.size w w') : Tab w' := Lib.tabBelow_of_tabIs h w' hb
theorem Itoa_any (n : Int) (h0 : -9223372036854775808 ≤ n) (h1 : n ≤ 9223372036854775807) (w : World) (ht : Tab w) :
    Calls Tryd.prog 30 #[.int .i64 n] w fun e w' => e = .returned (.string (itoaB n)) ∧ Below w.heap.size w w' :=
  (Tryd.strconv_Itoa n h0 h1 w ht).mono fun e w' ⟨he, k, os, hw⟩ => ⟨he, by rw [hw]; exact Lib.below_grow _ _ (Nat.le_refl _) _ _⟩
theorem bcell {W w1 : World} (hb : Below W.heap.size W w1) : (∀ b o, b < W.heap.size → w1.cell? ⟨b, o, none⟩ = W.cell? ⟨b, o, none⟩) ∧ (∀ b o, b < W.heap.size → w1.frozen? ⟨b, o, none⟩ = W.frozen? ⟨b, o, none⟩) :=
  ⟨fun b o h => hb.cell (p := ⟨b, o, none⟩) h, fun b o h => hb.frozen (p := ⟨b, o, none⟩) h⟩
set_option maxRecDepth 100000 in
set_option maxHeartbeats 8000000 in
theorem Text_no (op a b c e : Int) (hf : inst_Fit.f op a b c e = some false) (w : World) :
    Calls Tryd.prog 16 #[.agg #[.int .i64 op, .int .i64 a, .int .i64 b, .int .i64 c, .int .i32 e]] w fun e_ w' => e_ = .returned (.string ByteArray.empty) ∧ Below w.heap.size w w' := by
  have HF := Aside0.mk hf
  have HB := Aside0.mk (below_alloc (Below.refl w.heap.size w) (.cells #[.int .i64 op, .int .i64 a, .int .i64 b, .int .i64 c, .int .i32 e] 26))
  clear hf
  go_enter Tryd.func16, Tryd.ntmps16
  go_wp2_with (go_at_call 27; (with_reducible refine (inst_Fit.calls _ _ _ _ _ false _ HF.out).mono ?_); rintro e_ w1 ⟨rfl, hb⟩)
  go_ret
  exact ⟨rfl, below_step HB.out hb⟩
theorem num_bd (op a b c e : Int) (he : -2147483648 ≤ e ∧ e ≤ 2147483647) (h : fitP op a b c e = true) (x : Nat) : -2147483648 ≤ num a b c e x ∧ num a b c e x ≤ 2147483647 := by
  unfold fitP at h
  rw [List.all_eq_true] at h
  have key : ∀ k, k < 3 → 0 ≤ num a b c e k ∧ num a b c e k < 16 := fun k hk => by
    have hb := h k (List.mem_range.2 (by omega))
    have hl : (letter k != 105) = true := by rcases k with _ | _ | _ | k <;> first | rfl | omega
    unfold bad at hb
    rw [hl] at hb
    simp at hb
    omega
  rcases x with _ | _ | _ | x
  · have := key 0 (by omega); omega
  · have := key 1 (by omega); rw [Nat.zero_add]; omega
  · have := key 2 (by omega); rw [show 0 + 1 + 1 = 2 from rfl]; omega
  · exact he
theorem bsize_append (x y : ByteArray) : (x ++ y).size = x.size + y.size := by simp [ByteArray.size_append]
theorem name_size (n : Nat) : (nameN n).size ≤ 8 := by
  unfold nameN
  by_cases h : n < 26
  · have key : ∀ k : Fin 26, (kindsL.getD k.val (ByteArray.empty, ByteArray.empty)).1.size ≤ 8 := by decide +kernel
    exact key ⟨n, h⟩
  · rw [List.getD_eq_getElem?_getD, List.getElem?_eq_none (by show 26 ≤ n; omega)]; decide
theorem textP_size (op a b c e : Int) (hn : ∀ x, -2147483648 ≤ num a b c e x ∧ num a b c e x ≤ 2147483647) (k : Nat) : ∀ pre : List Nat, pre.length = k → (textP op a b c e pre).size ≤ 8 + 23 * k := by
  induction k with
  | zero => intro pre hp; rw [List.length_eq_zero_iff.1 hp]; exact name_size _
  | succ k ih =>
    intro pre hp
    obtain ⟨q, x, rfl⟩ : ∃ q x, pre = q ++ [x] := ⟨pre.dropLast, pre.getLast (by intro h; rw [h] at hp; cases hp), (List.dropLast_concat_getLast _).symm⟩
    have hq := ih q (by simpa using hp)
    have hx := hn x
    have hz := itoaB_size (num a b c e x) (by omega) (by omega)
    rw [textP_snoc]
    unfold tstep
    split
    · split
      · rw [bsize_append, bsize_append, show (⟨#[32]⟩ : ByteArray).size = 1 from rfl]; omega
      · rw [bsize_append, bsize_append, show (⟨#[32, 114]⟩ : ByteArray).size = 2 from rfl]; omega
    · omega
theorem KeepC.setR {n₀ R : Nat} (W : World) (v : Value) (h : n₀ ≤ R) : KeepC n₀ R W (W.setCell ⟨R, 0, none⟩ v) :=
  ⟨(Below.refl n₀ W).setCell (p := ⟨R, 0, none⟩) h _, fun i o hi ho _ => (Below.heap_setCell _ _ _ _ hi).trans ho⟩
set_option maxRecDepth 100000 in
set_option maxHeartbeats 8000000 in
theorem Text_yes (op a b c e : Int) (hop : 0 ≤ op ∧ op < 26) (he : -2147483648 ≤ e ∧ e ≤ 2147483647) (hf : inst_Fit.f op a b c e = some true) (hft : fitP op a b c e = true) (w : World) (ht : Tab w) :
    Calls Tryd.prog 16 #[.agg #[.int .i64 op, .int .i64 a, .int .i64 b, .int .i64 c, .int .i32 e]] w fun e_ w' => e_ = .returned (.string (textP op a b c e (List.range 4))) ∧ Below w.heap.size w w' := by
  obtain ⟨n, rfl⟩ : ∃ m : Nat, op = (m : Int) := ⟨op.toNat, by omega⟩
  have hn : n < 26 := by omega
  have hfit := fun n_ W => (callsIn_wide (n := n_)).2 (inst_Fit.calls _ _ _ _ _ true W hf)
  have hkinds := fun n W => (callsIn_wide (n := n)).2 (kinds_any W)
  have hparts := fun n_ W => (callsIn_wide (n := n_)).2 (parts_calls #[.int .i64 (n : Int), .int .i64 a, .int .i64 b, .int .i64 c, .int .i32 e] W)
  have hix := fun W => index_kinds n hn W
  have hfi := fun W => field_name (nameN n) (shapeN n) W
  have HT := Aside0.mk ht
  have HNB := Lib.hid (num_bd _ a b c e he hft)
  have HE := Lib.hid he
  clear hft he
  have HB := Aside0.mk (below_alloc (Below.refl w.heap.size w) (.cells #[.int .i64 n, .int .i64 a, .int .i64 b, .int .i64 c, .int .i32 e] 26))
  have HI := Aside0.mk (blk_new w (.cells #[.int .i64 n, .int .i64 a, .int .i64 b, .int .i64 c, .int .i32 e] 26))
  have HSZ := Aside0.mk (show w.heap.size < (w.alloc (.cells #[.int .i64 n, .int .i64 a, .int .i64 b, .int .i64 c, .int .i32 e] 26)).heap.size by simp)
  have hu49 := Tryd.underlying76
  have hu48 := Tryd.underlying75
  have hu23 := Tryd.underlying26
  have hmx : Tryd.prog.follows .mixedOrders = true := by kernel_rfl
  clear hf hop ht
  refine (callsIn_wide (n := 3)).1 ?_
  refine callsIn_of_wp_marks Tryd.func16 rfl trivial ?_ rfl
  simp only [Tryd.ntmps16, List.size_toArray, List.length_cons, List.length_nil, Nat.reduceAdd, Nat.reduceSub, Array.replicate_succ, Array.replicate_zero, List.push_toArray, List.append_toArray, List.nil_append, List.cons_append]
  gi_upto_region 3 with (refine ⟨trivial, ?_⟩; gi_at_call 27; refine (hfit _ _).mono ?_; rintro e_ w2 ⟨rfl, hb2⟩)
  have hI2 := Aside0.mk (blk_below HI.out hb2)
  have hB2 := Aside0.mk (below_step HB.out hb2)
  have hS2 := HSZ.out
  have hs2 := hb2.size
  have hc0 : w2.cell? ⟨w.heap.size, 0, none⟩ = some (.int .i64 n) := (blk_cell hI2.out 0).trans rfl
  have hlt2 : w.heap.size < w2.heap.size := Nat.lt_of_lt_of_le hS2 hs2
  clear hb2 HB HI HSZ hfit hS2 hs2
  refine wpIn_wide.2 ?_
  go_cut [3] from 37 (fun s3 wx => ∃ SB : Nat, s3 = .pointer (some ⟨SB, 0, none⟩) ∧ w.heap.size < SB ∧ Boxed wx SB 9 (.string (nameN n)) ∧ wx.heap[w.heap.size]? = some (.cells #[.int .i64 n, .int .i64 a, .int .i64 b, .int .i64 c, .int .i32 e] 26 (0, 0)) ∧ Below w.heap.size w wx)
  case first =>
    go_region_held3 (fun w' => w'.cell? ⟨w.heap.size, 0, none⟩ = some (.int .i64 n)) (first | assumption | (simp [go_sem, *]; done) | (refine (World.cell?_alloc_past _ _ _ ?_).trans ?_ <;> first | assumption | omega | (simp [go_sem, *]; done) | (simp; omega)))
      (first | (go_at_call 28; (with_reducible refine (kinds_any _).mono ?_); rintro e_ w3 ⟨rfl, hb3⟩; have hc3 : w3.cell? ⟨w.heap.size, 0, none⟩ = some (.int .i64 n) := (hb3.cell (p := ⟨w.heap.size, 0, none⟩) (by simp; omega)).trans (by assumption); have hz3 : w.heap.size < w3.heap.size := (by have := hb3.size; simp at this; omega); obtain ⟨hcl, hfr⟩ := bcell hb3; (try simp only [World.size_alloc, World.size_drew] at hcl hfr)))
    all_goals
      go_wp2_with fail
      go_meet
    · exact ⟨w3.heap.size, rfl, by omega, Boxed.new _ _ _, blk_alloc (blk_below (blk_drew hI2.out) hb3) _, below_alloc (below_step (below_drew1 hB2.out) hb3) _⟩
    · exact ⟨w3.heap.size, rfl, by omega, Boxed.new _ _ _, blk_alloc (blk_below (blk_drew hI2.out) hb3) _, below_alloc (below_step (below_drew1 hB2.out) hb3) _⟩
    · refine ⟨w2.heap.size, rfl, hlt2, Boxed.set _ (blk_below (blk_drew (blk_new w2 _)) hb3), (Below.heap_setCell _ _ _ _ (by simp; omega)).trans (blk_below (blk_drew (blk_alloc hI2.out _)) hb3), (below_step (below_drew1 (below_alloc hB2.out _)) hb3).setCell (p := ⟨w2.heap.size, 0, none⟩) (by simp; omega) _⟩
  case rest =>
    obtain ⟨SB, rfl, hSB, hs, hi, hB⟩ := hcut
    have hi0 := blk_cell hi 0
    have hi1 := blk_cell hi 1
    have hi2 := blk_cell hi 2
    have hi3 := blk_cell hi 3
    have hi4 := blk_cell hi 4
    simp only [List.getElem?_toArray, List.getElem?_cons_zero, List.getElem?_cons_succ] at hi0 hi1 hi2 hi3 hi4
    clear hc0 hlt2 hI2 hB2
    gi_wp2_with (refine ⟨trivial, ?_⟩; gi_at_call 29; refine (hparts _ _).mono ?_; rintro e_ w4 ⟨rfl, rfl⟩)
    obtain ⟨W3, hW3⟩ : ∃ W3, W3 = wc.alloc (.cells #[.int .i64 n, .int .i64 a, .int .i64 b, .int .i64 c, .int .i32 e] 26) := ⟨_, rfl⟩
    rw [← hW3]
    have hsz : W3.heap.size = wc.heap.size + 1 := by rw [hW3]; simp
    have hB3 : Below w.heap.size w W3 := by rw [hW3]; exact below_alloc hB _
    have hs3 : Boxed W3 SB 9 (.string (nameN n)) := by rw [hW3]; exact hs.alloc _
    have hbB : W3.heap[wc.heap.size]? = some (.cells #[.int .i64 n, .int .i64 a, .int .i64 b, .int .i64 c, .int .i32 e] 26 (0, 0)) := by rw [hW3]; exact blk_new1 _ _ _ rfl
    have hSBl := hs.lt
    have hw0 := hB.size
    have hseq := parts_stops 2 (by decide) wc.heap.size SB w.heap.size n a b c e HE.out W3 hbB (by omega) (by omega) (by omega)
    clear hW3 hparts hbB hi0 hi1 hi2 hi3 hi4 hi hs hB hkinds hix hfi
    refine wpIn_rangeFunc_ownH rfl (by decide) (gf := 45) (lb := #[.pointer (some ⟨wc.heap.size, 0, none⟩)]) rfl trivial (enters_of Tryd.func45 (by kernel_rfl) rfl) hseq (fun h k => KeepC.trans h k) (KeepC.putObj (by omega)) (Below.refl _ _) (fun _ => rfl)
      (fun pre W => (Boxed W SB 9 (.string (textP n a b c e pre)) ∧ W3.heap.size ≤ W.heap.size) ∧ Below w.heap.size w W)
      (fun cd pre W => False)
      (OwnFrom.and (Own.from (fun s X Y row hs hg hr => ⟨boxed_own (β := Unit) _ _ (fun _ => _) () X Y row hs.1 hg hr, Nat.le_trans hs.2 hg.size⟩) _) (ownFrom_below (Nat.le_refl _) (by omega)))
      (fun cd => Own.from (fun s X Y row hs hg hr => hs) _)
      ⟨⟨by simpa [textP] using hs3, Nat.le_refl _⟩, hB3⟩
      (fun x a' W => ∃ q : Nat, a' = { tmps := #[.agg #[.int .i64 n, .int .i64 a, .int .i64 b, .int .i64 c, .int .i32 e], .pointer (some ⟨w.heap.size, 0, none⟩), .string ⟨#[]⟩, .pointer (some ⟨SB, 0, none⟩), .pointer (some ⟨q, 0, none⟩), .agg #[.int .i64 n, .int .i64 a, .int .i64 b, .int .i64 c, .int .i32 e], .bool true, .bool false, u8, u9, u10, u11, u12, .agg #[.int .i64 n, .int .i64 a, .int .i64 b, .int .i64 c, .int .i32 e], .func (.func 45) #[] #[.pointer (some ⟨wc.heap.size, 0, none⟩)], .agg #[.int .u8 (letter x), .int .i64 (num a b c e x), .bool (uses n x)], undef, undef, undef, undef, undef, undef, undef, undef, undef, undef, undef, undef, undef, undef, undef, undef, undef, undef, undef, undef, undef], defers := [] } ∧ W.heap[q]? = some (.cells #[.int .u8 (letter x), .int .i64 (num a b c e x), .bool (uses n x)] 82 (0, 0)) ∧ q ≠ SB)
      (fun x a' => Own.from (fun s X Y row hs hg hr => (let ⟨q, h1, h2, h3⟩ := hs; ⟨q, h1, blk_own (β := Unit) q _ _ () X Y row h2 hg hr, h3⟩)) _) ?assign ?body ?done ?stop
    case assign =>
      intro l pre x W K hI hK
      obtain ⟨⟨hv, hsW⟩, hBW⟩ := hI
      unfold partV
      gi_wp2
      exact hK _ _ (KeepsFrom.of_grownBy (World.grownBy_alloc W _ none) (fun j e => by cases e)) (KeepC.of_below (below_alloc (Below.refl _ _) _) (by omega)) ⟨⟨hv.kept (World.grownBy_alloc W _ none) (by simp), by simp; omega⟩, below_alloc hBW _⟩ ⟨W.heap.size, rfl, blk_new W _, by omega⟩
    case body =>
      rintro lp pre x a' W hl hex ⟨⟨hv, hsW⟩, hBW⟩ ⟨q, rfl, hq, hqn⟩ hlen
      have hq0 := blk_cell hq 0
      have hq1 := blk_cell hq 1
      have hq2 := blk_cell hq 2
      simp only [List.getElem?_toArray, List.getElem?_cons_zero, List.getElem?_cons_succ] at hq0 hq1 hq2
      have hc := hv.cell
      have hf := hv.frozen
      have htx := textP_snoc n a b c e pre x
      have hsize := textP_size n a b c e HNB.out pre.length pre rfl
      have hnb := HNB.out x
      have hT := Aside0.mk (tab_mono HT.out hBW)
      unfold tstep at htx
      have hib := itoaB_size (num a b c e x) (by omega) (by omega)
      clear hex
      generalize uses n x = u at *
      generalize num a b c e x = nn at *
      generalize letter x = L at *
      generalize textP n a b c e pre = s at *
      have hs100 : s.size ≤ 100 := by omega
      have hqW : q < W.heap.size := (Array.getElem?_eq_some_iff.1 hq).1
      have hSW : SB < W.heap.size := hv.lt
      have HTX := Lib.hid htx
      clear htx
      have HV := Lib.hid hv
      have HBW := Lib.hid hBW
      clear hv hBW
      cases u
      · gi_wp2
        exact ⟨KeepsFrom.refl _ _, KeepC.refl _ _ _, ⟨⟨by rw [HTX.out]; exact HV.out, hsW⟩, HBW.out⟩⟩
      · by_cases hL : L = 105
        all_goals
          gi_wp2_with fail
          gi_region_with_o (refine ⟨trivial, ?_⟩; gi_at_call 30; refine (CallsIn.inRound lp (callsIn_wide.2 (Itoa_any nn (by omega) (by omega) _ (tab_mono hT.out (by repeat (first | exact Below.refl _ _ | apply below_drew1)))))).mono ?_; rintro e_ w5 ⟨rfl, hb5⟩; obtain ⟨hcl, hfr⟩ := bcell hb5; (try simp only [World.size_alloc, World.size_drew] at hcl hfr))
          all_goals
            gi_wp2
            have hBB : Below W.heap.size W w5 := below_step (by repeat (first | exact Below.refl _ _ | apply below_drew1)) hb5
            have hv5 := HV.out.kept (grown_of_below hBB none) (by simp)
            have hs5 := hBB.size
            refine ⟨(KeepsFrom.of_grownBy (grown_of_below hBB none) (fun j e => by cases e)).trans ((KeepsOthers.setCell _ _ _).from _), (KeepC.of_below hBB (by omega)).trans (KeepC.setR _ _ (by omega)), ⟨⟨?_, by simp; omega⟩, (below_step HBW.out hBB).setCell (p := ⟨SB, 0, none⟩) (by simp; omega) _⟩⟩
            rw [HTX.out, if_pos trivial]
            first | rw [if_pos hL] | rw [if_neg hL]
            exact hv5.set _
    case done =>
      rintro D ys W hD hS ⟨⟨hv, hsW⟩, hBW⟩ hK
      have hS' : ys = List.range 4 := hS
      subst hS'
      have hc := hv.cell
      have hf := hv.frozen
      gi_wp2
      refine ⟨by simp, .inl ⟨_, _, rfl, run_takeDeferred hK, ?_⟩⟩
      exact ⟨_, results_tmp rfl _ _ _, rfl, hBW.trans (belowK_b (w := w) (Nat.le_refl _) W D _ _ (by omega) hK rfl rfl)⟩
    case stop =>
      rintro D cd pre W hD hpre h hK
      exact h.elim
def inst_Text.f (a0 a1 a2 a3 a4 : Int) : Option ByteArray := (inst_Fit.f a0 a1 a2 a3 a4).bind fun t => if t = true then some (textP a0 a1 a2 a3 a4 (List.range 4)) else some ByteArray.empty
theorem inst_Text.calls (a0_0 : Int) (a0_1 : Int) (a0_2 : Int) (a0_3 : Int) (a0_4 : Int) (r : ByteArray) (w : World) (ht : Tab w) (h : inst_Text.f a0_0 a0_1 a0_2 a0_3 a0_4 = some r) :
    Calls Tryd.prog 16 #[.agg #[.int .i64 a0_0, .int .i64 a0_1, .int .i64 a0_2, .int .i64 a0_3, .int .i32 a0_4]] w fun e w' => e = .returned (.string r) ∧ Below w.heap.size w w' := by
  unfold inst_Text.f at h
  obtain ⟨t, hft, h⟩ := Option.bind_eq_some_iff.1 h
  cases t
  · rw [if_neg (by decide)] at h
    cases h
    exact Text_no _ _ _ _ _ hft w
  · rw [if_pos rfl] at h
    cases h
    have hft2 := hft
    unfold inst_Fit.f at hft2
    split at hft2
    · rename_i he
      have hb := Option.some.inj hft2
      unfold fitB at hb
      rw [Bool.and_eq_true, decide_eq_true_eq] at hb
      exact Text_yes _ _ _ _ _ hb.1 he hft hb.2 w ht
    · cases hft2
end Go.Proofs.YtbelnkdbghggmaaDoor.X
