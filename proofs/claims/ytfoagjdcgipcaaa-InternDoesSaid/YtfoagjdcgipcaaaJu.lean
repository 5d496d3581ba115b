/- Contracts of intern's Same with the library's EqualFunc, and of the library's Clone at labels, at rows of labels and at rows of numbers; they state what the Go function returns and that nothing that lay before the call has changed. -/
import Derived.Test.YtfoagjdcgipcaaaJt
import Derived.BigQuiet
import Derived.Deep.RegionWith
namespace Go.Proofs.Ytfoagjdcgipcaaa.X
open Go.RowKit Go.Shelf Go.Proofs.YtfoagjdcgipcaaaW.PrintWords Go.Proofs.YtfoagjdcgipcaaaW.PrintLast
set_option linter.unusedVariables false
set_option linter.unusedSimpArgs false

theorem rdL_at (l : List (List S57)) (i : Nat) (h : i < l.length) : rd_L3 l (i : Int) = l[i] := by simp [rd_L3, List.getD_eq_getElem?_getD, h]
theorem take_both {α : Type} (a b : List α) (k : Nat) (ha : k < a.length) (hb : k < b.length) (h : a.take k = b.take k) : (a.take (k + 1) = b.take (k + 1)) ↔ a[k] = b[k] := by
  have e1 : a.take (k + 1) = a.take k ++ [a[k]] := by simp [ha]
  have e2 : b.take (k + 1) = b.take k ++ [b[k]] := by simp [hb]
  rw [e1, e2, h]
  constructor
  · intro hh
    have h2 := List.append_cancel_left hh
    simpa using h2
  · intro hh
    rw [hh]
set_option maxRecDepth 100000 in
set_option maxHeartbeats 4000000 in
theorem EqF_any (A0 A1 : Option Addr) (c0 c1 : Nat) (a b : List (List S57)) (w : World) (hr0 : Kd.C (Kd.slice 57 k57) w A0 a.length a) (hr1 : Kd.C (Kd.slice 57 k57) w A1 b.length b) :
    Calls Try.prog 34 #[.slice A0 a.length c0, .slice A1 b.length c1, .func (.func 32) #[] #[]] w fun e w' => e = .returned (.bool (decide (a = b))) ∧ Below w.heap.size w w' := by
  have hmax : a.length ≤ 9223372036854775807 := hr0.2.1
  have HR0 := Q4 hr0
  have HR1 := Q4 hr1
  clear hr0 hr1
  by_cases hlen : a.length = b.length
  · have hq : ((a.length : Int) != (b.length : Int)) = false := by simp [hlen]
    have HL := Lib.hid hlen
    clear hlen
    go_enter Try.func34, Try.ntmps34
    go_wp2
    go_loopw [17] (fun i wr => ∃ k : Nat, k ≤ a.length ∧ i = .int .i64 k ∧ Aside0 (a.take k = b.take k) ∧ Below w.heap.size w wr) (fun i _ => a.length - (intOf i).toNat)
    case atStart => exact ⟨0, Nat.zero_le _, rfl, ⟨by simp⟩, Below.refl _ _⟩
    case round =>
      obtain ⟨k, hk, rfl, HT, hB⟩ := hrel
      by_cases hlt : k < a.length
      · have hltb : k < b.length := by rw [← HL.out]; exact hlt
        obtain ⟨ad0, X0, d0, e0, hx0, hl0, hr0⟩ := at_L3 (Kd.C_below HR0.out hB) (k : Int) (by omega) (by omega)
        obtain ⟨ad1, X1, d1, e1, hx1, hl1, hr1⟩ := at_L3 (Kd.C_below HR1.out hB) (k : Int) (by omega) (by omega)
        cases e0
        cases e1
        simp only [Int.toNat_natCast] at hx0 hx1
        have hcall := same_any X0 d0 _ X1 d1 _ wr hr0 hl0 hr1 hl1
        have p0 : ((k : Int) < (a.length : Int)) = True := eq_true (by omega)
        have p1 : ((k : Int) < (b.length : Int)) = True := eq_true (by omega)
        have HE := Lib.hid (take_both a b k hlt hltb HT.out)
        rw [rdL_at a k hlt, rdL_at b k hltb] at hcall
        rw [rdL_at a k hlt] at hx0
        rw [rdL_at b k hltb] at hx1
        clear hr0 hr1 hl0 hl1
        generalize a[k] = x at hcall hx0 HE
        generalize b[k] = y at hcall hx1 HE
        generalize hd : decide (x = y) = q at hcall
        have HD := Lib.hid hd
        clear hd
        cases q with
        | false =>
          go_wp2_with (go_at_call 32; refine hcall.mono ?_; rintro e w2 ⟨rfl, hb⟩)
          go_ret
          refine ⟨?_, hB.trans (hb.mono hB.size)⟩
          have hne : ¬ a = b := fun e => of_decide_eq_false HD.out (HE.out.1 (by rw [e]))
          simp [hne]
        | true =>
          go_wp2_with (go_at_call 32; refine hcall.mono ?_; rintro e w2 ⟨rfl, hb⟩)
          go_roundw
          case rel => exact ⟨k + 1, by omega, by go_num, ⟨HE.out.2 (Qc HD.out)⟩, hB.trans (hb.mono hB.size)⟩
          case measure => simp [intOf]; omega
      · obtain rfl : k = a.length := by omega
        go_wp2
        go_ret
        refine ⟨?_, hB⟩
        have h1 := HT.out
        rw [List.take_length, HL.out, List.take_length] at h1
        simp [h1]
  · have hq : ((a.length : Int) != (b.length : Int)) = true := by simp; omega
    have hne : ¬ a = b := fun e => hlen (by rw [e])
    clear hlen
    go_enter Try.func34, Try.ntmps34
    go_wp2
    go_ret
    exact ⟨by simp [hne], Below.refl _ _⟩

theorem ints_eq (a b : List Int) (hm : a.length ≤ 9223372036854775807) (e : a.length = b.length) (d : Nat) : ∀ (k i : Nat), i ≤ a.length → a.length - i = d → d + 1 ≤ k → slices_Equal_int_int.l0 k a b (a.length : Int) (i : Int) = some (decide (a.drop i = b.drop i)) := by
  induction d with
  | zero =>
    intro k i h1 h2 hk
    obtain ⟨k, rfl⟩ : ∃ m, k = m + 1 := ⟨k - 1, by omega⟩
    obtain rfl : i = a.length := by omega
    rw [slices_Equal_int_int.l0, if_neg (by omega), List.drop_length, e, List.drop_length]
    rfl
  | succ d ih =>
    intro k i h1 h2 hk
    obtain ⟨k, rfl⟩ : ∃ m, k = m + 1 := ⟨k - 1, by omega⟩
    have ha : i < a.length := by omega
    have hb : i < b.length := by omega
    have ra : rd a (i : Int) = a[i] := by simp [rd, List.getD_eq_getElem?_getD, ha]
    have rb : rd b (i : Int) = b[i] := by simp [rd, List.getD_eq_getElem?_getD, hb]
    rw [slices_Equal_int_int.l0, if_pos (by omega), if_pos (by omega), if_pos (by omega), if_pos (by omega), wrap_nat i (by omega), ra, rb, ih k (i + 1) (by omega) (by omega) (by omega), List.drop_eq_getElem_cons ha, List.drop_eq_getElem_cons hb]
    generalize a.drop (i + 1) = u
    generalize b.drop (i + 1) = v
    generalize a[i] = x
    generalize b[i] = y
    by_cases h : x = y
    · subst h
      simp
    · rw [if_neg h]
      simp [h]
theorem equal_eq (a b : List Int) (hm : a.length ≤ 9223372036854775807) : slices_Equal_int_int.f (a.length + 1) a b = some (decide (a = b)) := by
  unfold slices_Equal_int_int.f
  by_cases e : a.length = b.length
  · rw [if_pos (by omega)]
    have := ints_eq a b hm e a.length (a.length + 1) 0 (by omega) (by omega) (by omega)
    simp only [List.drop_zero] at this
    rw [show (0 : Int) = ((0 : Nat) : Int) from rfl, this]
  · rw [if_neg (by omega)]
    have : a ≠ b := fun h => e (by rw [h])
    simp [this]

/-- Same: whether two tables are alike. -/
theorem Same_any (A0 A1 A2 A3 : Option Addr) (c0 c1 c2 c3 : Nat) (a : List (List S57)) (x : List Int) (b : List (List S57)) (y : List Int) (w : World)
    (hr0 : Kd.C (Kd.slice 57 k57) w A0 a.length a) (hc0 : a.length ≤ c0) (hr1 : Kd.C (Kd.int .i64) w A1 x.length x) (hc1 : x.length ≤ c1) (hr2 : Kd.C (Kd.slice 57 k57) w A2 b.length b) (hc2 : b.length ≤ c2) (hr3 : Kd.C (Kd.int .i64) w A3 y.length y) (hc3 : y.length ≤ c3) :
    Calls Try.prog 15 #[.agg #[.slice A0 a.length c0, .slice A1 x.length c1], .agg #[.slice A2 b.length c2, .slice A3 y.length c3]] w fun e w' => e = .returned (.bool (decide (x = y) && decide (a = b))) ∧ Below w.heap.size w w' := by
  have hmax : x.length ≤ 9223372036854775807 := hr1.2.1
  have hB0 : Below w.heap.size w ((w.alloc (.cells #[.slice A0 a.length c0, .slice A1 x.length c1] 27)).alloc (.cells #[.slice A2 b.length c2, .slice A3 y.length c3] 27)) := ((Below.refl _ w).alloc (Nat.le_refl _) _).alloc (by simp) _
  have h33 := fun W (hb : Below w.heap.size w W) => (slices_Equal_int_int.calls (x.length + 1) A1 c1 x A3 c3 y _ W (Kd.C_below hr1 hb) hc1 (Kd.C_below hr3 hb) hc3 (equal_eq x y hmax)).mono (R' := fun e w' => e = .returned (.bool (decide (x = y))) ∧ Below W.heap.size W w') fun _ _ ⟨he, hd⟩ => ⟨he, hd.below⟩
  have h34 := fun W (hb : Below w.heap.size w W) => EqF_any A0 A2 c0 c2 a b W (Kd.C_below hr0 hb) (Kd.C_below hr2 hb)
  have HB := Q4 hB0
  clear hr0 hr1 hr2 hr3 hB0
  generalize decide (x = y) = p at h33 ⊢
  generalize decide (a = b) = q at h34 ⊢
  have HH := Q4 h33
  have HI := Q4 h34
  clear h33 h34
  cases p with
  | false =>
    go_enter Try.func15, Try.ntmps15
    go_wp2_with (first | (go_at_call 33; refine (HH.out _ HB.out).mono ?_; rintro e w2 ⟨rfl, hb⟩) | (go_at_call 34; refine (HI.out _ (HB.out.trans (hb.mono HB.out.size))).mono ?_; rintro e w3 ⟨rfl, hb3⟩))
    go_ret
    exact ⟨rfl, HB.out.trans (hb.mono HB.out.size)⟩
  | true =>
    go_enter Try.func15, Try.ntmps15
    go_wp2_with (first | (go_at_call 33; refine (HH.out _ HB.out).mono ?_; rintro e w2 ⟨rfl, hb⟩; have hc0 := (hb.cell (p := ⟨w.heap.size, 0, none⟩) (by simp <;> omega)); have hc1 := (hb.cell (p := ⟨w.heap.size + 1, 0, none⟩) (by simp <;> omega)); have HB2 := Q4 (HB.out.trans (hb.mono HB.out.size)); clear hb) | (go_at_call 34; refine (HI.out _ HB2.out).mono ?_; rintro e w3 ⟨rfl, hb3⟩))
    go_ret
    exact ⟨by simp, HB2.out.trans (hb3.mono HB2.out.size)⟩

theorem info57a : (Try.prog.info? 57).map (fun i => (i.zero, i.size, i.bytes)) = some (some (.agg #[(.int .u64 0), (.int .i64 0)]), 2, 16) := by kernel_rfl
theorem R_empty {α : Type} (d : Kd α) (e : Nat) (w : World) (base : Nat) (hb : base ≤ w.heap.size) : Kd.R d e (w.alloc (.cells #[] e)) base (fun _ => True) (.slice (some ⟨w.heap.size, 0, none⟩) 0 0) [] :=
  ⟨fun _ _ => trivial, [], by simpa using World.ownsRow_lit (base := base) (e := e) (size := d.sz) w #[] 0 hb (Nat.zero_le _) (by simp), Reps.none _ _⟩

def slices_ClonePair.f (l0 : List S57) : Option (List S57) := if l0.length < 8796093022208 then some l0 else none
theorem slices_ClonePair.calls (A0 : Option Addr) (c0 : Nat) (l0 : List S57) (r : List S57) (w : World) (hr0 : Kd.C k57 w A0 l0.length l0) (hc0 : l0.length ≤ c0) (h : slices_ClonePair.f l0 = some r) :
    Calls Try.prog 29 #[.slice A0 l0.length c0] w fun e w' => ∃ v0_ : Value, e = .returned (v0_) ∧ Kd.R k57 57 w' w.heap.size (fun _ => True) v0_ r ∧ Below w.heap.size w w' := by
  unfold slices_ClonePair.f at h
  by_cases hl : l0.length < 8796093022208
  · rw [if_pos hl] at h
    obtain rfl := Option.some.inj h
    cases A0 with
    | none =>
      have h0 : l0.length = 0 := by
        rcases Nat.eq_zero_or_pos l0.length with h0 | h0
        · exact h0
        · obtain ⟨ad, h, _⟩ := hr0.2.2 h0
          cases h
      obtain rfl : l0 = [] := List.eq_nil_of_length_eq_zero h0
      have hz := fun W => Lib.run_eql_slice_nil (P := Try.prog) W 29 57 none 0 c0 0 0 Try.underlying29
      go_enter Try.func29, Try.ntmps29
      go_wp2
      go_ret
      exact ⟨_, rfl, Kd.R_nil _ _ _ _ _, Below.refl _ _⟩
    | some ad =>
      have hz := fun W => Lib.run_eql_slice_nil (P := Try.prog) W 29 57 (some ad) l0.length c0 0 0 Try.underlying29
      have HR0 := Q4 hr0
      have LM := Q4 hl
      clear hr0 hl
      go_enter Try.func29, Try.ntmps29
      go_wp2_with ((with_reducible refine gate_builtin (b := .append) (xs := #[.tmp 5, .tmp 6]) rfl ?_); at_builtin; refine Kd.R_append_rows k57 (w0 := w) w.heap.size rfl (.tmp 5) (.tmp 6) 29 57 (.agg #[(.int .u64 0), (.int .i64 0)]) 16 rfl Try.underlying29 info57a rfl (by decide) (by omega) (.slice (some ⟨w.heap.size, 0, none⟩) 0 0) ([] : List S57) l0 _ _ _ (fun _ => True) (fun _ => False) rfl rfl (R_empty k57 57 w w.heap.size (Nat.le_refl _)) (Kd.C_alloc HR0.out _) (fun _ _ h => h) (fun _ h => h.elim) (fun _ _ => trivial) ((Below.refl _ w).alloc (Nat.le_refl _) _) (by simp) (by have := LM.out; simp; omega) ?_; intro v1 w1 ho hb _ _)
      go_ret
      exact ⟨_, rfl, ho, hb⟩
  · rw [if_neg hl] at h
    exact absurd h (by simp)

def slices_CloneInt.f (l0 : List Int) : Option (List Int) := if l0.length < 17592186044416 then some l0 else none
theorem slices_CloneInt.calls (A0 : Option Addr) (c0 : Nat) (l0 : List Int) (r : List Int) (w : World) (hr0 : Kd.C (Kd.int .i64) w A0 l0.length l0) (hc0 : l0.length ≤ c0) (h : slices_CloneInt.f l0 = some r) :
    Calls Try.prog 39 #[.slice A0 l0.length c0] w fun e w' => ∃ v0_ : Value, e = .returned (v0_) ∧ Kd.R (Kd.int .i64) 3 w' w.heap.size (fun _ => True) v0_ r ∧ Below w.heap.size w w' := by
  unfold slices_CloneInt.f at h
  by_cases hl : l0.length < 17592186044416
  · rw [if_pos hl] at h
    obtain rfl := Option.some.inj h
    cases A0 with
    | none =>
      have h0 : l0.length = 0 := by
        rcases Nat.eq_zero_or_pos l0.length with h0 | h0
        · exact h0
        · obtain ⟨ad, h, _⟩ := hr0.2.2 h0
          cases h
      obtain rfl : l0 = [] := List.eq_nil_of_length_eq_zero h0
      have hz := fun W => Lib.run_eql_slice_nil (P := Try.prog) W 25 3 none 0 c0 0 0 Try.underlying25
      go_enter Try.func39, Try.ntmps39
      go_wp2
      go_ret
      exact ⟨_, rfl, Kd.R_nil _ _ _ _ _, Below.refl _ _⟩
    | some ad =>
      have hz := fun W => Lib.run_eql_slice_nil (P := Try.prog) W 25 3 (some ad) l0.length c0 0 0 Try.underlying25
      have HR0 := Q4 hr0
      have LM := Q4 hl
      clear hr0 hl
      go_enter Try.func39, Try.ntmps39
      go_wp2_with ((with_reducible refine gate_builtin (b := .append) (xs := #[.tmp 5, .tmp 6]) rfl ?_); at_builtin; refine Kd.R_append_rows (Kd.int .i64) (w0 := w) w.heap.size rfl (.tmp 5) (.tmp 6) 25 3 (.int .i64 0) 8 rfl Try.underlying25 info3 rfl (by decide) (by omega) (.slice (some ⟨w.heap.size, 0, none⟩) 0 0) ([] : List Int) l0 _ _ _ (fun _ => True) (fun _ => False) rfl rfl (R_empty (Kd.int .i64) 3 w w.heap.size (Nat.le_refl _)) (Kd.C_alloc HR0.out _) (fun _ _ h => h) (fun _ h => h.elim) (fun _ _ => trivial) ((Below.refl _ w).alloc (Nat.le_refl _) _) (by simp) (by have := LM.out; simp; omega) ?_; intro v1 w1 ho hb _ _)
      go_ret
      exact ⟨_, rfl, ho, hb⟩
  · rw [if_neg hl] at h
    exact absurd h (by simp)

theorem R_emptyOk {α : Type} (d : Kd α) (e : Nat) (w : World) (base : Nat) (ok : Nat → Prop) (hok : ok w.heap.size) (hb : base ≤ w.heap.size) : Kd.R d e (w.alloc (.cells #[] e)) base ok (.slice (some ⟨w.heap.size, 0, none⟩) 0 0) [] :=
  ⟨fun k hk => by simp [Value.ownBlock] at hk; exact hk ▸ hok, [], by simpa using World.ownsRow_lit (base := base) (e := e) (size := d.sz) w #[] 0 hb (Nat.zero_le _) (by simp), Reps.none _ _⟩
/-- The library's Clone of a row of labels: a row of one's own, its labels shared. -/
theorem CloneLab_any (P0 : Nat → Prop) (A0 : Option Addr) (c0 : Nat) (l0 : List (List S57)) (w : World) (hs0 : Kd.V (Kd.slice 57 k57) 29 w w.heap.size P0 (.slice A0 l0.length c0) l0) (hl : l0.length < 5864062014805) :
    Calls Try.prog 38 #[.slice A0 l0.length c0] w fun e w' => ∃ v0_ : Value, e = .returned v0_ ∧ Kd.N (Kd.slice 57 k57) 29 w' w.heap.size (fun k => P0 k ∨ w.heap.size ≤ k) v0_ l0 ∧ Below w.heap.size w w' := by
  have hr0 := (Kd.V_reads' hs0).2.2
  cases A0 with
  | none =>
    have h0 : l0.length = 0 := by
      rcases Nat.eq_zero_or_pos l0.length with h0 | h0
      · exact h0
      · obtain ⟨ad, h, _⟩ := hr0.2.2 h0
        cases h
    obtain rfl : l0 = [] := List.eq_nil_of_length_eq_zero h0
    have hz := fun W => Lib.run_eql_slice_nil (P := Try.prog) W 22 29 none 0 c0 0 0 Try.underlying22
    clear hr0 hs0
    go_enter Try.func38, Try.ntmps38
    go_wp2
    go_ret
    exact ⟨_, rfl, Kd.N_nil _ _ _ _ _, Below.refl _ _⟩
  | some ad =>
    have hz := fun W => Lib.run_eql_slice_nil (P := Try.prog) W 22 29 (some ad) l0.length c0 0 0 Try.underlying22
    have HS0 := Q4 hs0
    have LM := Q4 hl
    clear hr0 hs0 hl
    go_enter Try.func38, Try.ntmps38
    go_wp2_with ((with_reducible refine gate_builtin (b := .append) (xs := #[.tmp 5, .tmp 6]) rfl ?_); at_builtin; refine Kd.N_append_rows (Kd.slice 57 k57) (w0 := w) w.heap.size rfl (.tmp 5) (.tmp 6) 22 29 (.slice none 0 0) 24 rfl Try.underlying22 info29 rfl (by decide) (by omega) (.slice (some ⟨w.heap.size, 0, none⟩) 0 0) ([] : List (List S57)) l0 _ _ _ (fun k => P0 k ∨ w.heap.size ≤ k) (fun k => P0 k ∧ k < w.heap.size) rfl rfl ?aO ?aR ?aok ?aF ?aB ?aS ?aL ?_; (case aO => exact Kd.R_N (R_emptyOk (Kd.slice 57 k57) 29 w w.heap.size _ (.inr (Nat.le_refl _)) (Nat.le_refl _))); (case aR => exact Kd.V_F (Kd.V_alloc (Kd.V_bound HS0.out) _)); (case aok => exact fun k hk => ⟨.inl hk.1, by have := hk.2; simp [Value.ownBlock]; omega⟩); (case aF => exact fun k hk => .inr (by simp at hk; omega)); (case aB => exact (Below.refl _ w).alloc (Nat.le_refl _) _); (case aS => simp); (case aL => have := LM.out; simp; omega); intro v1 w1 ho hb _ _)
    go_ret
    exact ⟨_, rfl, ho, hb⟩
end Go.Proofs.Ytfoagjdcgipcaaa.X
