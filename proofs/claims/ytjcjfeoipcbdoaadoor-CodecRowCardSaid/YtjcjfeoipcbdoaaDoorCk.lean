/- Contract of codec.Read in the form of the printed contracts. -/
import Derived.Test.YtjcjfeoipcbdoaaDoorCj
import Derived.Deep.QuietTactic
import Derived.BigQuiet
namespace Go.Proofs.YtjcjfeoipcbdoaaDoor.X
open Go.RowKit Go.Proofs.YtjcjfeoipcbdoaaDoorW.PrintWords Go.Proofs.YtjcjfeoipcbdoaaDoorW.PrintLast Go.Proofs.YtjcjfeoipcbdoaaDoorW.PrintMore
set_option linter.unusedVariables false
set_option linter.unusedSimpArgs false
set_option maxRecDepth 100000 in
set_option maxHeartbeats 2000000 in
theorem text_dash (s : ByteArray) (w : World) (hq : (s.toList == ([45] : List UInt8)) = true) : Calls Tryd.prog 21 #[.string s] w (TextPost (textR s) w) := by
  have hr : textR s = (0, []) := by unfold textR; rw [if_pos hq]
  rw [hr]
  clear hr
  go_enter Tryd.func21, Tryd.ntmps21
  go_wp2
  go_ret
  exact ⟨.inl ⟨_, rfl, rfl, Kd.R_nil _ _ _ _ _⟩, Below.refl _ _⟩
theorem text_any (s : ByteArray) (hs : s.size < 4294967281) (w : World) (ht : Env w) : Calls Tryd.prog 21 #[.string s] w (TextPost (textR s) w) := by
  cases h : (s.toList == ([45] : List UInt8)) with
  | true => exact text_dash s w h
  | false => exact text_range s hs w ht h
theorem textR_len (s : ByteArray) : (textR s).2.length ≤ 16 := by
  unfold textR
  split
  · simp
  · split
    · split
      · assumption
      · simp
    · simp
theorem textR_thr (s : ByteArray) (h : (textR s).1 ≠ 0) : (textR s).2 = [] := by
  unfold textR at *
  split at h
  · exact absurd rfl h
  · rename_i h1
    rw [if_neg h1]
    split at h
    · rename_i h2
      rw [if_pos h2]
      split at h
      · exact absurd rfl h
      · rename_i h3
        rw [if_neg h3]
    · rename_i h2
      rw [if_neg h2]
set_option maxRecDepth 100000 in
set_option maxHeartbeats 2000000 in
theorem read1_ret (s : ByteArray) (hs : s.size < 4294967281) (b g : Nat) (W : World) (ht : Env W)
    (hb : W.heap[b]? = some (.cells #[.string s] 9 (0, 0))) (hg : W.heap[g]? = some (.cells #[.slice none 0 0] 23 (0, 0))) (hl : (textR s).1 = 0) :
    Calls Tryd.prog 20 #[.pointer (some ⟨b, 0, none⟩), .pointer (some ⟨g, 0, none⟩)] W fun e w' => e = .returned (.tuple #[]) ∧ ∃ w1 v, w' = w1.setCell ⟨g, 0, none⟩ v ∧ Kd.R k47 47 w1 W.heap.size (fun _ => True) v (textR s).2 ∧ Below W.heap.size W w1 := by
  have hw := text_any s hs W ht
  generalize textR s = r at *
  have HW := Aside0.mk hw
  have HG := Aside0.mk hg
  have HL := Aside0.mk hl
  have hc := blk_cell hb 0
  simp only [List.getElem?_toArray, List.getElem?_cons_zero] at hc
  clear hw hg hl hb
  go_enter Tryd.func20, Tryd.ntmps20
  go_wp2_with fail
  go_at_call 21
  (with_reducible refine HW.out.mono ?_)
  rintro e_ w1 ⟨⟨v, h1, rfl, hv⟩ | ⟨h1, h2⟩, hb1⟩
  · obtain ⟨A4, c4, rfl⟩ := Kd.R_slice hv
    have hg1 := blk_below HG.out hb1
    have hgc := blk_cell hg1 0
    have hgf := blk_frozen hg1 0
    simp only [List.getElem?_toArray, List.getElem?_cons_zero] at hgc
    have HV := Aside0.mk hv
    clear hv hg1
    go_wp2
    go_end0
    exact ⟨rfl, w1, _, rfl, HV.out, hb1⟩
  · exact absurd HL.out h1
set_option maxRecDepth 100000 in
set_option maxHeartbeats 2000000 in
theorem read1_thr (s : ByteArray) (hs : s.size < 4294967281) (b g : Nat) (W : World) (ht : Env W)
    (hb : W.heap[b]? = some (.cells #[.string s] 9 (0, 0))) (hl : (textR s).1 ≠ 0) :
    Calls Tryd.prog 20 #[.pointer (some ⟨b, 0, none⟩), .pointer (some ⟨g, 0, none⟩)] W fun e w' => e = .panicked (thrown (textR s).1) ∧ Below W.heap.size W w' := by
  have hw := text_any s hs W ht
  generalize textR s = r at *
  have HW := Aside0.mk hw
  have HL := Aside0.mk hl
  have hc := blk_cell hb 0
  simp only [List.getElem?_toArray, List.getElem?_cons_zero] at hc
  clear hw hl hb
  go_enter Tryd.func20, Tryd.ntmps20
  go_wp2_with fail
  go_at_call 21
  (with_reducible refine HW.out.mono ?_)
  rintro e_ w1 ⟨⟨v, h1, rfl, hv⟩ | ⟨h1, rfl⟩, hb1⟩
  · exact absurd h1 HL.out
  · exact ⟨rfl, rfl, hb1⟩
set_option maxRecDepth 100000 in
set_option maxHeartbeats 4000000 in
theorem Read_thr (s : ByteArray) (hs : s.size < 4294967281) (w : World) (ht : Env w) (hl : (textR s).1 ≠ 0) :
    Calls Tryd.prog 8 #[.string s] w fun e w' => e = .returned (.tuple #[.slice none 0 0, .int .i64 (textR s).1]) ∧ Below w.heap.size w w' := by
  have hmf : ∀ (fn : Fn) (first cap : Array Value) (w : World), (Instr.makeFunc fn first cap).run Tryd.prog w = .ok (.func fn first cap) w := fun _ _ _ _ => rfl
  obtain ⟨W0, hW0⟩ : ∃ W0, W0 = (w.alloc (.cells #[.string s] 9)).alloc (.cells #[.slice none 0 0] 23) := ⟨_, rfl⟩
  have hs0 : W0.heap.size = w.heap.size + 2 := by rw [hW0]; simp
  have hB0 : Below w.heap.size w W0 := by rw [hW0]; exact below_alloc (below_alloc (Below.refl _ _) _) _
  have hb : W0.heap[w.heap.size]? = some (.cells #[.string s] 9 (0, 0)) := by rw [hW0]; exact blk_alloc (blk_new w _) _
  have hp := read1_thr s hs w.heap.size (w.heap.size + 1) (W0.alloc (.cells #[.int .i64 0] 25)) (env_mono ht (below_alloc hB0 _)) (blk_alloc hb _) hl
  generalize (textR s).1 = c at *
  have hk := caught_thr20 #[.pointer (some ⟨w.heap.size, 0, none⟩), .pointer (some ⟨w.heap.size + 1, 0, none⟩)] W0 c (fun w1 => Below (W0.alloc (.cells #[.int .i64 0] 25)).heap.size (W0.alloc (.cells #[.int .i64 0] 25)) w1) (fun w1 h => blk_below (blk_new W0 _) h) hp
  have HK := Aside0.mk hk
  have HB0 := Aside0.mk hB0
  have HS0 := Aside0.mk hs0
  clear hp hk hb hs0 hB0
  go_enter Tryd.func8, Tryd.ntmps8
  go_wp2_with fail
  rw [← hW0]
  clear hW0
  go_at_call 19
  (with_reducible refine HK.out.mono ?_)
  rintro e_ w5 ⟨rfl, w1, hb1, rfl⟩
  go_wp2
  go_ret2
  have hB1 : Below w.heap.size w w1 := below_step (below_alloc HB0.out _) hb1
  exact ⟨rfl, (below_alloc hB1 _).setCell (p := ⟨W0.heap.size, 0, none⟩) (by have := HS0.out; simp; omega) _⟩
set_option maxRecDepth 100000 in
set_option maxHeartbeats 4000000 in
theorem Read_ret (s : ByteArray) (hs : s.size < 4294967281) (w : World) (ht : Env w) (hl : (textR s).1 = 0) :
    Calls Tryd.prog 8 #[.string s] w fun e w' => ∃ v0_ : Value, e = .returned (.tuple #[v0_, .int .i64 0]) ∧ Kd.R k47 47 w' w.heap.size (fun _ => True) v0_ (textR s).2 ∧ Below w.heap.size w w' := by
  have hmf : ∀ (fn : Fn) (first cap : Array Value) (w : World), (Instr.makeFunc fn first cap).run Tryd.prog w = .ok (.func fn first cap) w := fun _ _ _ _ => rfl
  obtain ⟨W0, hW0⟩ : ∃ W0, W0 = (w.alloc (.cells #[.string s] 9)).alloc (.cells #[.slice none 0 0] 23) := ⟨_, rfl⟩
  have hs0 : W0.heap.size = w.heap.size + 2 := by rw [hW0]; simp
  have hB0 : Below w.heap.size w W0 := by rw [hW0]; exact below_alloc (below_alloc (Below.refl _ _) _) _
  have hb : W0.heap[w.heap.size]? = some (.cells #[.string s] 9 (0, 0)) := by rw [hW0]; exact blk_alloc (blk_new w _) _
  have hg : W0.heap[w.heap.size + 1]? = some (.cells #[.slice none 0 0] 23 (0, 0)) := by rw [hW0]; have := blk_new (w.alloc (.cells #[.string s] 9)) (.cells #[.slice none 0 0] 23); rwa [World.size_alloc] at this
  have hp := read1_ret s hs w.heap.size (w.heap.size + 1) (W0.alloc (.cells #[.int .i64 0] 25)) (env_mono ht (below_alloc hB0 _)) (blk_alloc hb _) (blk_alloc hg _) hl
  generalize (textR s).2 = l at *
  have hk := caught_ret20 #[.pointer (some ⟨w.heap.size, 0, none⟩), .pointer (some ⟨w.heap.size + 1, 0, none⟩)] W0 (fun w' => ∃ w1 v, w' = w1.setCell ⟨w.heap.size + 1, 0, none⟩ v ∧ Kd.R k47 47 w1 (W0.alloc (.cells #[.int .i64 0] 25)).heap.size (fun _ => True) v l ∧ Below (W0.alloc (.cells #[.int .i64 0] 25)).heap.size (W0.alloc (.cells #[.int .i64 0] 25)) w1)
    (fun w2 ⟨w1, v, h, _, hb1⟩ => by rw [h]; exact (Below.heap_setCell _ _ _ _ (by show W0.heap.size ≠ w.heap.size + 1; omega)).trans (blk_below (blk_new W0 _) hb1)) hp
  have HK := Aside0.mk hk
  have HB0 := Aside0.mk hB0
  have HS0 := Aside0.mk hs0
  have HG := Aside0.mk hg
  clear hp hk hl hb hs0 hB0 hg
  go_enter Tryd.func8, Tryd.ntmps8
  go_wp2_with fail
  rw [← hW0]
  go_at_call 19
  (with_reducible refine HK.out.mono ?_)
  rintro e_ w5 ⟨rfl, w2, ⟨w1, v, rfl, hv, hb1⟩, rfl⟩
  obtain ⟨A4, c4, rfl⟩ := Kd.R_slice hv
  have hs0 := HS0.out
  have hg1 := blk_below (blk_alloc HG.out (.cells #[.int .i64 0] 25)) hb1
  have hr1 := blk_below (blk_new W0 (.cells #[.int .i64 0] 25)) hb1
  have hg2 := blk_put hg1 0 (.slice A4 l.length c4) rfl
  have hr2 : (w1.setCell ⟨w.heap.size + 1, 0, none⟩ (.slice A4 l.length c4)).heap[W0.heap.size]? = some (.cells #[.int .i64 0] 25 (0, 0)) := (Below.heap_setCell _ _ _ _ (by show W0.heap.size ≠ w.heap.size + 1; omega)).trans hr1
  have hg3 := (Below.heap_setCell (w1.setCell ⟨w.heap.size + 1, 0, none⟩ (.slice A4 l.length c4)) ⟨W0.heap.size, 0, none⟩ (.int .i64 0) (w.heap.size + 1) (by show w.heap.size + 1 ≠ W0.heap.size; omega)).trans hg2
  have hv2 := R_set2 (j := 0) (u := .slice A4 l.length c4) hv hg1 (by decide)
  have hv3 := Kd.R_lower (R_set2 (j := 0) (u := .int .i64 0) hv2 hr2 (by decide)) (base' := w.heap.size) (by simp; omega)
  have hB1 : Below w.heap.size w w1 := below_step (below_alloc HB0.out _) hb1
  have hB3 := (hB1.setCell (p := ⟨w.heap.size + 1, 0, none⟩) (by simp) (.slice A4 l.length c4)).setCell (p := ⟨W0.heap.size, 0, none⟩) (by simp; omega) (.int .i64 0)
  have hgc := blk_cell hg3 0
  simp at hgc
  have HV3 := Aside0.mk hv3
  have HB3 := Aside0.mk hB3
  clear hv hv2 hv3 hB1 hB3 hg1 hr1 hg2 hr2 hg3 hs0
  generalize (w1.setCell ⟨w.heap.size + 1, 0, none⟩ (.slice A4 l.length c4)).setCell ⟨W0.heap.size, 0, none⟩ (.int .i64 0) = w6 at hgc HV3 HB3 ⊢
  clear HG HS0 HK hb1
  go_wp2
  go_ret2
  exact ⟨_, rfl, HV3.out, HB3.out⟩
def codec_Read.f (a0 : ByteArray) : Option (List S47 × Int) := if a0.size < 4294967281 then some ((textR a0).2, (textR a0).1) else none
theorem codec_Read.calls (a0 : ByteArray) (r1 : List S47) (r2 : Int) (w : World) (ht : Env w) (h : codec_Read.f a0 = some (r1, r2)) :
    Calls Tryd.prog 8 #[.string a0] w fun e w' => ∃ v0_ : Value, e = .returned (.tuple #[v0_, .int .i64 r2]) ∧ Kd.R k47 47 w' w.heap.size (fun _ => True) v0_ r1 ∧ Below w.heap.size w w' := by
  unfold codec_Read.f at h
  split at h
  · rename_i hok
    have h := Option.some.inj h
    by_cases hz : (textR a0).1 = 0
    · have := Read_ret a0 hok w ht hz
      cases h
      rw [hz]
      exact this
    · have h1 := Read_thr a0 hok w ht hz
      have h2 := textR_thr a0 hz
      cases h
      rw [h2]
      exact h1.mono fun e w' ⟨he, hb⟩ => ⟨_, he, Kd.R_nil _ _ _ _ _, hb⟩
  · cases h
end Go.Proofs.YtjcjfeoipcbdoaaDoor.X
