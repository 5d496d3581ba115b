/- Contract of codec.Parse in the form of the printed contracts. -/
import Derived.Test.YtjcjfeoipcbdoaaDoorCd
import Derived.Deep.QuietTactic
import Derived.BigQuiet
namespace Go.Proofs.YtjcjfeoipcbdoaaDoor.X
open Go.RowKit Go.Proofs.YtjcjfeoipcbdoaaDoorW.PrintWords Go.Proofs.YtjcjfeoipcbdoaaDoorW.PrintLast Go.Proofs.YtjcjfeoipcbdoaaDoorW.PrintMore
set_option linter.unusedVariables false
set_option linter.unusedSimpArgs false
set_option maxRecDepth 100000 in
set_option maxHeartbeats 2000000 in
theorem parse1_ret (A0 : Option Addr) (c0 : Nat) (ws : List Int) (l : List S47) (b g : Nat) (W : World) (hr0 : Kd.C (Kd.int .u64) W A0 ws.length ws) (hc0 : ws.length ≤ c0) (hu : ∀ j : Nat, 0 ≤ rd ws (j : Int) ∧ rd ws (j : Int) < 18446744073709551616)
    (hb : W.heap[b]? = some (.cells #[.slice A0 ws.length c0] 33 (0, 0))) (hg : W.heap[g]? = some (.cells #[.slice none 0 0] 23 (0, 0))) (hl : wordsR ws = some l) :
    Calls Tryd.prog 29 #[.pointer (some ⟨b, 0, none⟩), .pointer (some ⟨g, 0, none⟩)] W fun e w' => e = .returned (.tuple #[]) ∧ ∃ w1 v, w' = w1.setCell ⟨g, 0, none⟩ v ∧ Kd.R k47 47 w1 W.heap.size (fun _ => True) v l ∧ Below W.heap.size W w1 := by
  have hw := codec_words_any A0 c0 ws W hr0 hc0 hu
  rw [hl] at hw
  have HW := Aside0.mk hw
  have HG := Aside0.mk hg
  have hc := blk_cell hb 0
  simp only [List.getElem?_toArray, List.getElem?_cons_zero] at hc
  clear hw hr0 hu hg hl
  go_enter Tryd.func29, Tryd.ntmps29
  go_wp2_with fail
  go_at_call 30
  (with_reducible refine HW.out.mono ?_)
  rintro e_ w1 ⟨⟨l', v, h1, rfl, hv⟩ | ⟨h1, h2⟩, hb1⟩
  · cases h1
    obtain ⟨A4, c4, rfl⟩ := Kd.R_slice hv
    have hg1 := blk_below HG.out hb1
    have hgc := blk_cell hg1 0
    have hgf := blk_frozen hg1 0
    simp only [List.getElem?_toArray, List.getElem?_cons_zero] at hgc
    have HV := Aside0.mk hv
    clear hv hg1
    go_wp2
    go_end0
    exact ⟨rfl, w1, _, rfl, HV.out, hb1⟩
  · cases h1
set_option maxRecDepth 100000 in
set_option maxHeartbeats 2000000 in
theorem parse1_thr (A0 : Option Addr) (c0 : Nat) (ws : List Int) (b g : Nat) (W : World) (hr0 : Kd.C (Kd.int .u64) W A0 ws.length ws) (hc0 : ws.length ≤ c0) (hu : ∀ j : Nat, 0 ≤ rd ws (j : Int) ∧ rd ws (j : Int) < 18446744073709551616)
    (hb : W.heap[b]? = some (.cells #[.slice A0 ws.length c0] 33 (0, 0))) (hl : wordsR ws = none) :
    Calls Tryd.prog 29 #[.pointer (some ⟨b, 0, none⟩), .pointer (some ⟨g, 0, none⟩)] W fun e w' => e = .panicked (thrown 11) ∧ Below W.heap.size W w' := by
  have hw := codec_words_any A0 c0 ws W hr0 hc0 hu
  rw [hl] at hw
  have HW := Aside0.mk hw
  have hc := blk_cell hb 0
  simp only [List.getElem?_toArray, List.getElem?_cons_zero] at hc
  clear hw hr0 hu hl
  go_enter Tryd.func29, Tryd.ntmps29
  go_wp2_with fail
  go_at_call 30
  (with_reducible refine HW.out.mono ?_)
  rintro e_ w1 ⟨⟨l', v, h1, rfl, hv⟩ | ⟨h1, rfl⟩, hb1⟩
  · cases h1
  · exact ⟨rfl, rfl, hb1⟩
/-- What Parse answers. -/
def parseR (ws : List Int) : List S47 × Int × Int := match wordsR ws with
  | some l => (l, 2 * (l.length : Int) + 1, 0)
  | none => ([], 0, 11)
set_option maxRecDepth 100000 in
set_option maxHeartbeats 4000000 in
theorem Parse_thr (A0 : Option Addr) (c0 : Nat) (ws : List Int) (w : World) (hr0 : Kd.C (Kd.int .u64) w A0 ws.length ws) (hc0 : ws.length ≤ c0) (hu : ∀ j : Nat, 0 ≤ rd ws (j : Int) ∧ rd ws (j : Int) < 18446744073709551616) (hl : wordsR ws = none) :
    Calls Tryd.prog 13 #[.slice A0 ws.length c0] w fun e w' => e = .returned (.tuple #[.slice none 0 0, .int .i64 0, .int .i64 11]) ∧ Below w.heap.size w w' := by
  have hmf : ∀ (fn : Fn) (first cap : Array Value) (w : World), (Instr.makeFunc fn first cap).run Tryd.prog w = .ok (.func fn first cap) w := fun _ _ _ _ => rfl
  obtain ⟨W0, hW0⟩ : ∃ W0, W0 = (w.alloc (.cells #[.slice A0 ws.length c0] 33)).alloc (.cells #[.slice none 0 0] 23) := ⟨_, rfl⟩
  have hs0 : W0.heap.size = w.heap.size + 2 := by rw [hW0]; simp
  have hB0 : Below w.heap.size w W0 := by rw [hW0]; exact below_alloc (below_alloc (Below.refl _ _) _) _
  have hb : W0.heap[w.heap.size]? = some (.cells #[.slice A0 ws.length c0] 33 (0, 0)) := by rw [hW0]; exact blk_alloc (blk_new w _) _
  have hrW : Kd.C (Kd.int .u64) W0 A0 ws.length ws := by rw [hW0]; exact Kd.C_alloc (Kd.C_alloc hr0 _) _
  have hp := parse1_thr A0 c0 ws w.heap.size (w.heap.size + 1) (W0.alloc (.cells #[.int .i64 0] 25)) (Kd.C_alloc hrW _) hc0 hu (blk_alloc hb _) hl
  have hk := caught_thr29 #[.pointer (some ⟨w.heap.size, 0, none⟩), .pointer (some ⟨w.heap.size + 1, 0, none⟩)] W0 11 (fun w1 => Below (W0.alloc (.cells #[.int .i64 0] 25)).heap.size (W0.alloc (.cells #[.int .i64 0] 25)) w1) (fun w1 h => blk_below (blk_new W0 _) h) hp
  have HK := Aside0.mk hk
  have HB0 := Aside0.mk hB0
  have HS0 := Aside0.mk hs0
  clear hp hk hr0 hu hl hb hs0 hB0 hrW
  go_enter Tryd.func13, Tryd.ntmps13
  go_wp2_with fail
  rw [← hW0]
  clear hW0
  go_at_call 19
  (with_reducible refine HK.out.mono ?_)
  rintro e_ w5 ⟨rfl, w1, hb1, rfl⟩
  go_wp2
  go_ret3
  have hB1 : Below w.heap.size w w1 := below_step (below_alloc HB0.out _) hb1
  exact ⟨rfl, (below_alloc hB1 _).setCell (p := ⟨W0.heap.size, 0, none⟩) (by have := HS0.out; simp; omega) _⟩
set_option maxRecDepth 100000 in
set_option maxHeartbeats 4000000 in
theorem Parse_ret (A0 : Option Addr) (c0 : Nat) (ws : List Int) (w : World) (l : List S47) (hr0 : Kd.C (Kd.int .u64) w A0 ws.length ws) (hc0 : ws.length ≤ c0) (hu : ∀ j : Nat, 0 ≤ rd ws (j : Int) ∧ rd ws (j : Int) < 18446744073709551616) (hl : wordsR ws = some l) (hlen : l.length ≤ 16) :
    Calls Tryd.prog 13 #[.slice A0 ws.length c0] w fun e w' => ∃ v0_ : Value, e = .returned (.tuple #[v0_, .int .i64 (2 * (l.length : Int) + 1), .int .i64 0]) ∧ Kd.R k47 47 w' w.heap.size (fun _ => True) v0_ l ∧ Below w.heap.size w w' := by
  have hmf : ∀ (fn : Fn) (first cap : Array Value) (w : World), (Instr.makeFunc fn first cap).run Tryd.prog w = .ok (.func fn first cap) w := fun _ _ _ _ => rfl
  obtain ⟨W0, hW0⟩ : ∃ W0, W0 = (w.alloc (.cells #[.slice A0 ws.length c0] 33)).alloc (.cells #[.slice none 0 0] 23) := ⟨_, rfl⟩
  have hs0 : W0.heap.size = w.heap.size + 2 := by rw [hW0]; simp
  have hB0 : Below w.heap.size w W0 := by rw [hW0]; exact below_alloc (below_alloc (Below.refl _ _) _) _
  have hb : W0.heap[w.heap.size]? = some (.cells #[.slice A0 ws.length c0] 33 (0, 0)) := by rw [hW0]; exact blk_alloc (blk_new w _) _
  have hg : W0.heap[w.heap.size + 1]? = some (.cells #[.slice none 0 0] 23 (0, 0)) := by rw [hW0]; have := blk_new (w.alloc (.cells #[.slice A0 ws.length c0] 33)) (.cells #[.slice none 0 0] 23); rwa [World.size_alloc] at this
  have hrW : Kd.C (Kd.int .u64) W0 A0 ws.length ws := by rw [hW0]; exact Kd.C_alloc (Kd.C_alloc hr0 _) _
  have hp := parse1_ret A0 c0 ws l w.heap.size (w.heap.size + 1) (W0.alloc (.cells #[.int .i64 0] 25)) (Kd.C_alloc hrW _) hc0 hu (blk_alloc hb _) (blk_alloc hg _) hl
  have hk := caught_ret29 #[.pointer (some ⟨w.heap.size, 0, none⟩), .pointer (some ⟨w.heap.size + 1, 0, none⟩)] W0 (fun w' => ∃ w1 v, w' = w1.setCell ⟨w.heap.size + 1, 0, none⟩ v ∧ Kd.R k47 47 w1 (W0.alloc (.cells #[.int .i64 0] 25)).heap.size (fun _ => True) v l ∧ Below (W0.alloc (.cells #[.int .i64 0] 25)).heap.size (W0.alloc (.cells #[.int .i64 0] 25)) w1)
    (fun w2 ⟨w1, v, h, _, hb1⟩ => by rw [h]; exact (Below.heap_setCell _ _ _ _ (by show W0.heap.size ≠ w.heap.size + 1; omega)).trans (blk_below (blk_new W0 _) hb1)) hp
  have HK := Aside0.mk hk
  have HB0 := Aside0.mk hB0
  have HS0 := Aside0.mk hs0
  have HG := Aside0.mk hg
  clear hp hk hr0 hu hl hb hs0 hB0 hrW hg
  go_enter Tryd.func13, Tryd.ntmps13
  go_wp2_with fail
  rw [← hW0]
  go_at_call 19
  (with_reducible refine HK.out.mono ?_)
  rintro e_ w5 ⟨rfl, w2, ⟨w1, v, rfl, hv, hb1⟩, rfl⟩
  obtain ⟨A4, c4, rfl⟩ := Kd.R_slice hv
  have hs0 := HS0.out
  have hg1 := blk_below (blk_alloc HG.out (.cells #[.int .i64 0] 25)) hb1
  have hr1 := blk_below (blk_new W0 (.cells #[.int .i64 0] 25)) hb1
  have hg2 := blk_put hg1 0 (.slice A4 l.length c4) rfl
  have hr2 : (w1.setCell ⟨w.heap.size + 1, 0, none⟩ (.slice A4 l.length c4)).heap[W0.heap.size]? = some (.cells #[.int .i64 0] 25 (0, 0)) := (Below.heap_setCell _ _ _ _ (by show W0.heap.size ≠ w.heap.size + 1; omega)).trans hr1
  have hg3 := (Below.heap_setCell (w1.setCell ⟨w.heap.size + 1, 0, none⟩ (.slice A4 l.length c4)) ⟨W0.heap.size, 0, none⟩ (.int .i64 0) (w.heap.size + 1) (by show w.heap.size + 1 ≠ W0.heap.size; omega)).trans hg2
  have hv2 := Kd.R_set hv hg1 (by intro q hq; simp [k47, Kd.iso, Kd.pair, Kd.int, Kd.scalar] at hq; omega) 0 (.slice A4 l.length c4)
  have hv3 := Kd.R_lower (Kd.R_set hv2 hr2 (by intro q hq; simp [k47, Kd.iso, Kd.pair, Kd.int, Kd.scalar] at hq; omega) 0 (.int .i64 0)) (base' := w.heap.size) (by simp; omega)
  have hB1 : Below w.heap.size w w1 := below_step (below_alloc HB0.out _) hb1
  have hB3 := (hB1.setCell (p := ⟨w.heap.size + 1, 0, none⟩) (by simp) (.slice A4 l.length c4)).setCell (p := ⟨W0.heap.size, 0, none⟩) (by simp; omega) (.int .i64 0)
  have hgc := blk_cell hg3 0
  simp at hgc
  have HV3 := Aside0.mk hv3
  have HB3 := Aside0.mk hB3
  clear hv hv2 hv3 hB1 hB3 hg1 hr1 hg2 hr2 hg3 hs0
  generalize (w1.setCell ⟨w.heap.size + 1, 0, none⟩ (.slice A4 l.length c4)).setCell ⟨W0.heap.size, 0, none⟩ (.int .i64 0) = w6 at hgc HV3 HB3 ⊢
  clear HG HS0 HK hb1
  have hi : IntKind.i64.wrap (2 * (l.length : Int)) = 2 * (l.length : Int) := by rw [IntKind.wrap_i64]; omega
  have hi2 : IntKind.i64.wrap (2 * (l.length : Int) + 1) = 2 * (l.length : Int) + 1 := by rw [IntKind.wrap_i64]; omega
  go_wp2
  go_quiet (fail)
  go_wp2
  go_ret3
  exact ⟨_, rfl, Kd.R_drewN HV3.out _, pw_below_drewN HB3.out _⟩
theorem wordsR_len {ws : List Int} {l : List S47} (h : wordsR ws = some l) (h0 : 0 ≤ rd ws 0) : l.length ≤ 16 := by
  unfold wordsR at h
  by_cases c0 : ws.length = 0
  · rw [if_pos c0] at h; cases h
  · rw [if_neg c0] at h
    by_cases c1 : rd ws 0 > 16
    · rw [if_pos c1] at h; cases h
    · rw [if_neg c1] at h
      by_cases c2 : (ws.length : Int) ≤ 2 * rd ws 0
      · rw [if_pos c2] at h; cases h
      · rw [if_neg c2] at h
        split at h
        · split at h
          · cases h; rw [pairsW_length]; omega
          · cases h
        · cases h
def okW (ws : List Int) : Prop := ∀ j : Nat, 0 ≤ rd ws (j : Int) ∧ rd ws (j : Int) < 18446744073709551616
def okB (ws : List Int) : Bool := ws.all (fun x => decide (0 ≤ x) && decide (x < 18446744073709551616))
theorem okB_W {ws : List Int} (h : okB ws = true) : okW ws := by
  intro j
  unfold rd
  rw [Int.toNat_natCast, List.getD_eq_getElem?_getD]
  cases hj : ws[j]? with
  | none => exact ⟨Int.le_refl 0, by decide⟩
  | some x =>
    have := List.all_eq_true.1 h x (List.mem_of_getElem? hj)
    simp at this
    exact this
def codec_Parse.f (l0 : List Int) : Option (List S47 × Int × Int) := if okB l0 = true then some (parseR l0) else none
theorem codec_Parse.calls (A0 : Option Addr) (c0 : Nat) (l0 : List Int) (r1 : List S47) (r2 : Int) (r3 : Int) (w : World) (hr0 : Kd.C (Kd.int .u64) w A0 l0.length l0) (hc0 : l0.length ≤ c0) (h : codec_Parse.f l0 = some (r1, r2, r3)) :
    Calls Tryd.prog 13 #[.slice A0 l0.length c0] w fun e w' => ∃ v0_ : Value, e = .returned (.tuple #[v0_, .int .i64 r2, .int .i64 r3]) ∧ Kd.R k47 47 w' w.heap.size (fun _ => True) v0_ r1 ∧ Below w.heap.size w w' := by
  unfold codec_Parse.f at h
  split at h
  · rename_i hok
    replace hok := okB_W hok
    have h := Option.some.inj h
    unfold parseR at h
    cases hw : wordsR l0 with
    | none =>
      rw [hw] at h
      cases h
      exact (Parse_thr A0 c0 l0 w hr0 hc0 hok hw).mono fun e w' ⟨he, hb⟩ => ⟨_, he, Kd.R_nil _ _ _ _ _, hb⟩
    | some l =>
      rw [hw] at h
      cases h
      exact Parse_ret _ _ _ _ _ hr0 hc0 hok hw (wordsR_len hw (by have := (hok 0).1; simpa using this))
  · cases h
end Go.Proofs.YtjcjfeoipcbdoaaDoor.X
