/- Contract of codec.words: the label that words begin with, or the error that is thrown. -/
import Derived.Test.YtjcjfeoipcbdoaaDoorCc
import Derived.Test.YtjcjfeoipcbdoaaDoorPf
namespace Go.Proofs.YtjcjfeoipcbdoaaDoor.X
open Go.RowKit Go.Proofs.YtjcjfeoipcbdoaaDoorW.PrintWords Go.Proofs.YtjcjfeoipcbdoaaDoorW.PrintLast Go.Proofs.YtjcjfeoipcbdoaaDoorW.PrintMore
set_option linter.unusedVariables false
set_option linter.unusedSimpArgs false
/-- The first pairs of words. -/
def pairsW (ws : List Int) (n : Nat) : List S47 := (List.range n).map (fun (j : Nat) => (⟨rd ws ((2 * j + 1 : Nat) : Int), rd ws ((2 * j + 2 : Nat) : Int)⟩ : S47))
def levsW (ws : List Int) (n : Nat) : Bool := (List.range n).all (fun (j : Nat) => decide (rd ws ((2 * j + 2 : Nat) : Int) ≤ 5))
/-- The label that words begin with; none: an error is thrown. -/
def wordsR (ws : List Int) : Option (List S47) :=
  if ws.length = 0 then none else if rd ws 0 > 16 then none else if (ws.length : Int) ≤ 2 * rd ws 0 then none else if levsW ws (rd ws 0).toNat = true then (if fitL (pairsW ws (rd ws 0).toNat) = true then some (pairsW ws (rd ws 0).toNat) else none) else none
def WordsPost (r : Option (List S47)) (w : World) (e : Ending) (w' : World) : Prop :=
  ((∃ l v, r = some l ∧ e = .returned v ∧ Kd.R k47 47 w' w.heap.size (fun _ => True) v l) ∨ (r = none ∧ e = .panicked (thrown 11))) ∧ Below w.heap.size w w'
theorem pairsW_succ (ws : List Int) (n : Nat) : pairsW ws (n + 1) = pairsW ws n ++ [⟨rd ws ((2 * n + 1 : Nat) : Int), rd ws ((2 * n + 2 : Nat) : Int)⟩] := by
  unfold pairsW; rw [List.range_succ, List.map_append]; rfl
theorem levsW_succ (ws : List Int) (n : Nat) : levsW ws (n + 1) = (levsW ws n && decide (rd ws ((2 * n + 2 : Nat) : Int) ≤ 5)) := by
  unfold levsW; rw [List.range_succ, List.all_append]; simp
theorem pairsW_length (ws : List Int) (n : Nat) : (pairsW ws n).length = n := by simp [pairsW]
theorem levsW_mono (ws : List Int) (n m : Nat) (h : n ≤ m) (hl : levsW ws n = false) : levsW ws m = false := by
  unfold levsW at *
  rw [List.all_eq_false] at *
  obtain ⟨x, hx, hxx⟩ := hl
  exact ⟨x, List.mem_range.2 (by have := List.mem_range.1 hx; omega), hxx⟩
theorem post_none {r : Option (List S47)} {w w' : World} {fn : Func} {a : Act} (hr : r = none) (hd : a.defers = []) (hb : Below w.heap.size w w') : bodyPost Tryd.prog fn (WordsPost r w) (Exit.panic (thrown 11)) a w' :=
  ⟨hd, .inr ⟨hr, rfl⟩, hb⟩
theorem spot_none {w : World} {ad : Addr} {v : Value} (h : w.cell? ad = some v) : ∃ b o, ad = ⟨b, o, none⟩ := by
  obtain ⟨b, o, sp⟩ := ad
  cases sp with
  | none => exact ⟨b, o, rfl⟩
  | some q =>
    unfold World.cell? at h
    simp at h
    split at h <;> simp at h
set_option maxRecDepth 100000 in
set_option maxHeartbeats 8000000 in
theorem words_0 (A0 : Option Addr) (c0 : Nat) (w : World) : Calls Tryd.prog 30 #[.slice A0 0 c0] w (WordsPost none w) := by
  go_enter Tryd.func30, Tryd.ntmps30
  go_wp2_with (go_at_call 35; (with_reducible refine (must_no 11 _).mono ?_); rintro e_ w1 ⟨rfl, rfl⟩)
  exact post_none rfl rfl (Below.refl _ _)
set_option maxRecDepth 100000 in
set_option maxHeartbeats 8000000 in
theorem words_1 (A0 : Option Addr) (c0 : Nat) (ws : List Int) (w : World) (hr0 : Kd.C (Kd.int .u64) w A0 ws.length ws) (h0 : 0 < ws.length) (h1 : rd ws 0 > 16) : Calls Tryd.prog 30 #[.slice A0 ws.length c0] w (WordsPost none w) := by
  obtain ⟨ad, rfl, hx⟩ := Kd.at_int hr0 0 (by omega) (by omega)
  rw [show ((0 : Int)).toNat = 0 from rfl, Addr.add_zero'] at hx
  have hmax := Kd.C_max hr0
  have hd : decide (rd ws 0 ≤ 16) = false := decide_eq_false (by omega)
  clear hr0
  go_enter Tryd.func30, Tryd.ntmps30
  go_wp2_with (go_at_call 35; (with_reducible refine (must_no 11 _).mono ?_); rintro e_ w1 ⟨rfl, rfl⟩)
  exact post_none rfl rfl (Below.refl _ _)
set_option maxRecDepth 100000 in
set_option maxHeartbeats 8000000 in
theorem words_2 (A0 : Option Addr) (c0 : Nat) (ws : List Int) (n : Nat) (w : World) (hr0 : Kd.C (Kd.int .u64) w A0 ws.length ws) (h0 : 0 < ws.length) (hn : rd ws 0 = (n : Int)) (h1 : n ≤ 16) (h2 : ws.length ≤ 2 * n) : Calls Tryd.prog 30 #[.slice A0 ws.length c0] w (WordsPost none w) := by
  obtain ⟨ad, rfl, hx⟩ := Kd.at_int hr0 0 (by omega) (by omega)
  rw [show ((0 : Int)).toNat = 0 from rfl, Addr.add_zero', hn] at hx
  have hmax := Kd.C_max hr0
  have hd : decide ((n : Int) ≤ 16) = true := decide_eq_true (by omega)
  have hd2 : decide (2 * n < ws.length) = false := decide_eq_false (by omega)
  have hd3 : decide (2 * (n : Int) < (ws.length : Int)) = false := decide_eq_false (by omega)
  clear hr0 hn
  go_enter Tryd.func30, Tryd.ntmps30
  go_wp2_with (first | (go_at_call 35; (with_reducible refine (must_yes 11 _).mono ?_); rintro e_ w1 ⟨rfl, rfl⟩) | (go_at_call 35; (with_reducible refine (must_no 11 _).mono ?_); rintro e_ w1 ⟨rfl, rfl⟩))
  exact post_none rfl rfl (Below.refl _ _)
set_option maxRecDepth 100000 in
set_option maxHeartbeats 8000000 in
theorem words_3 (A0 : Option Addr) (c0 : Nat) (ws : List Int) (n : Nat) (w : World) (hr0 : Kd.C (Kd.int .u64) w A0 ws.length ws) (hc0 : ws.length ≤ c0) (h0 : 0 < ws.length) (hn : rd ws 0 = (n : Int)) (h1 : n ≤ 16) (h2 : 2 * n < ws.length) (hu : ∀ j : Nat, 0 ≤ rd ws (j : Int) ∧ rd ws (j : Int) < 18446744073709551616) (r : Option (List S47)) (hres : (if levsW ws n = true then (if fitL (pairsW ws n) = true then some (pairsW ws n) else none) else none) = r) :
    Calls Tryd.prog 30 #[.slice A0 ws.length c0] w (WordsPost r w) := by
  obtain ⟨ad, rfl, hx⟩ := Kd.at_int hr0 0 (by omega) (by omega)
  rw [show ((0 : Int)).toNat = 0 from rfl, Addr.add_zero', hn] at hx
  obtain ⟨ab, ao, rfl⟩ := spot_none hx
  have hmax := Kd.C_max hr0
  have hd : decide ((n : Int) ≤ 16) = true := decide_eq_true (by omega)
  have hd2 : decide (2 * n < ws.length) = true := decide_eq_true (by omega)
  have hd3 : decide (2 * (n : Int) < (ws.length : Int)) = true := decide_eq_true (by omega)
  have hw : wrap64 (n : Int) = (n : Int) := by unfold wrap64; omega
  have HR := Aside0.mk hr0
  have HU := Aside0.mk hu
  have HRES := Aside0.mk hres
  clear hr0 hn hu hres
  go_enter Tryd.func30, Tryd.ntmps30
  go_wp2_with (go_at_call 35; (with_reducible refine (must_yes 11 _).mono ?_); rintro e_ w1 ⟨rfl, rfl⟩)
  go_loopw [4, 28] (fun v i wr => ∃ k : Nat, k ≤ n ∧ i = .int .i64 k ∧ Aside0 (levsW ws k = true) ∧ Aside0 (Kd.R k47 47 wr w.heap.size (fun _ => True) v (pairsW ws k)) ∧ Aside0 (Below w.heap.size w wr)) (fun _ i _ => n - (intOf i).toNat)
  case atStart => exact ⟨0, Nat.zero_le _, rfl, ⟨rfl⟩, ⟨Kd.R_nil _ _ _ _ _⟩, ⟨Below.refl _ _⟩⟩
  case round =>
    obtain ⟨k, hk, rfl, hlv, HO, HB⟩ := hrel
    by_cases hlt : k < n
    · obtain ⟨ad1, e1, hx1⟩ := Kd.at_int HR.out ((2 * k + 1 : Nat) : Int) (by omega) (by omega)
      obtain ⟨ad2, e2, hx2⟩ := Kd.at_int HR.out ((2 * k + 2 : Nat) : Int) (by omega) (by omega)
      cases e1
      cases e2
      replace hx1 := (HB.out.cell (World.block_lt_of_cell? w _ hx1)).trans hx1
      replace hx2 := (HB.out.cell (World.block_lt_of_cell? w _ hx2)).trans hx2
      rw [Int.toNat_natCast, Lib.add_plain] at hx1 hx2
      have hu1 := HU.out (2 * k + 1)
      have hu2 := HU.out (2 * k + 2)
      have hlv1 := levsW_succ ws k
      have hpr := pairsW_succ ws k
      rw [hlv.out, Bool.true_and] at hlv1
      generalize rd ws ((2 * k + 1 : Nat) : Int) = x1 at hx1 hu1 hpr
      generalize rd ws ((2 * k + 2 : Nat) : Int) = x2 at hx2 hu2 hlv1 hpr
      have HLV := Aside0.mk hlv1
      have HPR := Aside0.mk hpr
      clear hlv1 hpr
      by_cases hle : x2 ≤ 5
      · have hdl : decide (x2 ≤ 5) = true := decide_eq_true hle
        go_wp2_with (first | (go_at_call 35; (with_reducible refine (must_yes 11 _).mono ?_); rintro e_ w1 ⟨rfl, rfl⟩) | ((with_reducible refine gate_builtin (b := .append) (xs := #[.tmp 40, .tmp 50]) rfl ?_); at_builtin; refine Kd.R_append k47 (w0 := w) w.heap.size rfl (.tmp 40) (.tmp 50) 23 47 (.agg #[(.int .u64 0), (.int .i64 0)]) 16 rfl Tryd.underlying23 info47 rfl (by decide) (by omega) u4 (pairsW ws k) (⟨x1, x2⟩ : S47) [.int .u64 x1, .int .i64 x2] (fun _ => True) (fun _ => False) rfl rfl ?aP (fun _ hk => hk.elim) (fun _ _ => trivial) ?aO ?aB ?aS ?aL ?_; (case aP => exact k47_mkM _ _ _ (⟨x1, x2⟩ : S47)); (case aO => exact HO.out); (case aB => exact HB.out); (case aS => exact below_size HB.out); (case aL => rw [pairsW_length]; omega); intro v1 w1 ho hb hg hat))
        go_roundw
        case rel => exact ⟨k + 1, by omega, by go_num, ⟨by rw [HLV.out, hdl]⟩, ⟨by rw [HPR.out]; exact ho⟩, ⟨hb⟩⟩
        case measure => simp [intOf]; omega
      · have hdl : decide (x2 ≤ 5) = false := decide_eq_false hle
        go_wp2_with (go_at_call 35; (with_reducible refine (must_no 11 _).mono ?_); rintro e_ w1 ⟨rfl, rfl⟩)
        refine post_none ?_ rfl HB.out
        rw [← HRES.out, if_neg]
        rw [levsW_mono ws (k + 1) n (by omega) (by rw [HLV.out, hdl])]
        decide
    · obtain rfl : k = n := by omega
      have hfv := label_val (pairsW ws k) (by rw [pairsW_length]; omega) 20 (by rw [pairsW_length]; omega)
      obtain ⟨A4, c4, rfl, hl4, hr4⟩ := Kd.R_reads HO.out
      have hres := HRES.out
      rw [if_pos hlv.out] at hres
      generalize hp : pairsW ws k = l at hfv hres hr4 hl4 HO
      generalize hb : fitL l = b at hfv hres
      have HFV := Aside0.mk hfv
      have HR4 := Aside0.mk hr4
      have HL4 := Aside0.mk hl4
      have HRS := Aside0.mk hres
      clear hp hb hfv hr4 hl4 hres HRES
      cases b
      · go_wp2_with (first | (go_at_call 23; (with_reducible refine (label_Fit.calls 20 _ _ _ false _ HR4.out HL4.out HFV.out).mono ?_); rintro e_ w1 ⟨rfl, hb1⟩) | (go_at_call 35; (with_reducible refine (must_no 11 _).mono ?_); rintro e_ w2 ⟨rfl, rfl⟩))
        exact post_none (by rw [← HRS.out]; rfl) rfl (below_step HB.out hb1)
      · go_wp2_with (first | (go_at_call 23; (with_reducible refine (label_Fit.calls 20 _ _ _ true _ HR4.out HL4.out HFV.out).mono ?_); rintro e_ w1 ⟨rfl, hb1⟩) | (go_at_call 35; (with_reducible refine (must_yes 11 _).mono ?_); rintro e_ w2 ⟨rfl, rfl⟩))
        go_ret
        exact ⟨.inl ⟨l, _, by rw [← HRS.out]; rfl, rfl, Kd.R_below HO.out hb1⟩, below_step HB.out hb1⟩
theorem codec_words_any (A0 : Option Addr) (c0 : Nat) (ws : List Int) (w : World) (hr0 : Kd.C (Kd.int .u64) w A0 ws.length ws) (hc0 : ws.length ≤ c0) (hu : ∀ j : Nat, 0 ≤ rd ws (j : Int) ∧ rd ws (j : Int) < 18446744073709551616) :
    Calls Tryd.prog 30 #[.slice A0 ws.length c0] w (WordsPost (wordsR ws) w) := by
  unfold wordsR
  by_cases h0 : ws.length = 0
  · rw [if_pos h0, h0]
    exact words_0 A0 c0 w
  · rw [if_neg h0]
    by_cases h1 : rd ws 0 > 16
    · rw [if_pos h1]
      exact words_1 A0 c0 ws w hr0 (by omega) h1
    · rw [if_neg h1]
      have h00 := hu 0
      obtain ⟨n, hn⟩ : ∃ n : Nat, rd ws 0 = (n : Int) := ⟨(rd ws 0).toNat, by have := h00.1; simp at this; omega⟩
      by_cases h2 : (ws.length : Int) ≤ 2 * rd ws 0
      · rw [if_pos h2]
        exact words_2 A0 c0 ws n w hr0 (by omega) hn (by omega) (by omega)
      · rw [if_neg h2]
        rw [hn, Int.toNat_natCast]
        exact words_3 A0 c0 ws n w hr0 hc0 (by omega) hn (by omega) (by omega) hu _ rfl
end Go.Proofs.YtjcjfeoipcbdoaaDoor.X
