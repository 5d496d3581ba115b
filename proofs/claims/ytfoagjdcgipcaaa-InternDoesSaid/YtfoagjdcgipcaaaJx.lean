/- The walks of intern.Add, path by path: what the call of the Go function returns, and that nothing that lay before it has changed; each path under the tests that lead there. -/
import Derived.Test.YtfoagjdcgipcaaaJw
namespace Go.Proofs.Ytfoagjdcgipcaaa.X
open Go.RowKit Go.Shelf Go.Proofs.YtfoagjdcgipcaaaW.PrintWords Go.Proofs.YtfoagjdcgipcaaaW.PrintLast
set_option linter.unusedVariables false
set_option linter.unusedSimpArgs false
/-- One label of a row of one's own is written. -/
theorem N_setLab {W : World} {base g n cap : Nat} {ok okp : Nat → Prop} {xs : List (List S57)} (h : Kd.N (Kd.slice 57 k57) 29 W base ok (.slice (some ⟨g, 0, none⟩) n cap) xs) (i : Nat) (h1 : i < n) (A : Option Addr) (c : Nat) (l : List S57) (hc : l.length ≤ c) (hF : Kd.F k57 W okp A l.length l) (hokp : ∀ k, okp k → ok k ∧ k ≠ g) :
    Kd.N (Kd.slice 57 k57) 29 (W.setCell ⟨g, i, none⟩ (.slice A l.length c)) base ok (.slice (some ⟨g, 0, none⟩) n cap) (xs.set i l) ∧ (∃ u, W.cell? ⟨g, i, none⟩ = some u) ∧ W.frozen? ⟨g, i, none⟩ = false := by
  obtain ⟨cs, hcl, _, hcc, hfz⟩ := Kd.N_elem h [] (i : Int) (by omega) (by omega)
  have hcl1 : cs.length = 1 := hcl
  obtain ⟨u, rfl⟩ : ∃ u, cs = [u] := List.length_eq_one_iff.1 hcl1
  have hsg := Kd.N_seg h (i : Int) (by omega) (by omega) (c := [u]) (seg := [.slice A l.length c]) (j := 0) hcl hcc (by simp [Kd.slice]) (x' := l) (okp := okp) (fun W2 hW => ⟨A, c, by simp, hc, hF W2 hW⟩) hokp
  have h0 := hcc 0 u rfl
  have hz := hfz 0
  simp only [Int.toNat_natCast, Kd.slice, Nat.mul_one, Nat.add_zero] at h0 hz
  refine ⟨?_, ⟨u, h0⟩, hz⟩
  simpa [World.setCells, Kd.slice] using hsg.1
set_option maxRecDepth 100000 in
set_option maxHeartbeats 8000000 in
theorem Add_bad (k : Nat) (P0 P1 : Nat → Prop) (A0 A1 A2 : Option Addr) (c0 c1 c2 : Nat) (l0 : List (List S57)) (l1 : List Int) (l : List S57) (w : World)
    (hs0 : Kd.V (Kd.slice 57 k57) 29 w w.heap.size P0 (.slice A0 l0.length c0) l0) (hs1 : Kd.V (Kd.int .i64) 3 w w.heap.size P1 (.slice A1 l1.length c1) l1) (hr2 : Kd.C k57 w A2 l.length l) (hc2 : l.length ≤ c2) (hg : intern_good.f k l = some false) :
    Calls Try.prog 8 #[.agg #[.slice A0 l0.length c0, .slice A1 l1.length c1], .slice A2 l.length c2] w fun e w' => ∃ v0_ v1_ : Value, e = .returned (.tuple #[.agg #[v0_, v1_], .int .i64 0, .int .i64 4]) ∧ Kd.V (Kd.slice 57 k57) 29 w' w.heap.size (fun k_ => ((P0 k_ ∨ P1 k_) ∨ w.heap.size ≤ k_)) v0_ l0 ∧ Kd.V (Kd.int .i64) 3 w' w.heap.size (fun k_ => ((P0 k_ ∨ P1 k_) ∨ w.heap.size ≤ k_)) v1_ l1 ∧ Below w.heap.size w w' := by
  have HG := Q4 hg
  clear hg
  have HS0 := Q4 (Kd.V_bound hs0)
  have HS1 := Q4 (Kd.V_bound hs1)
  have HR2 := Q4 hr2
  have HB := Q4 ((((Below.refl _ w).alloc (Nat.le_refl _) (.cells #[.slice A0 l0.length c0, .slice A1 l1.length c1] 27)).alloc (by simp) (.cells #[.slice none 0 0, .slice none 0 0] 27)))
  have hsz : ((w.alloc (.cells #[.slice A0 l0.length c0, .slice A1 l1.length c1] 27)).alloc (.cells #[.slice none 0 0, .slice none 0 0] 27)).heap.size = w.heap.size + 2 := by simp
  have K0 : ((w.alloc (.cells #[.slice A0 l0.length c0, .slice A1 l1.length c1] 27)).alloc (.cells #[.slice none 0 0, .slice none 0 0] 27)).heap[w.heap.size]? = some (.cells #[.slice A0 l0.length c0, .slice A1 l1.length c1] 27 (0, 0)) := Q7 (blk_new w _) _
  have K1 : ((w.alloc (.cells #[.slice A0 l0.length c0, .slice A1 l1.length c1] 27)).alloc (.cells #[.slice none 0 0, .slice none 0 0] 27)).heap[w.heap.size + 1]? = some (.cells #[.slice none 0 0, .slice none 0 0] 27 (0, 0)) := by
    have := blk_new (w.alloc (.cells #[.slice A0 l0.length c0, .slice A1 l1.length c1] 27)) (.cells #[.slice none 0 0, .slice none 0 0] 27)
    rwa [World.size_alloc] at this
  have V0 := Kd.V_alloc (Kd.V_alloc HS0.out (.cells #[.slice A0 l0.length c0, .slice A1 l1.length c1] 27)) (.cells #[.slice none 0 0, .slice none 0 0] 27)
  clear hs0 hs1 hr2
  go_enter Try.func8, Try.ntmps8
  go_wp2_with (go_at_call 26; (with_reducible refine (intern_good.calls k A2 c2 l false _ ?s1 hc2 HG.out).mono ?_); (case s1 => exact Kd.C_below HR2.out (by repeat (first|(with_reducible first|exact HB.out|apply Q8|apply Q5|apply Q9)|exact HB.out))); rintro e w1 ⟨rfl, hb⟩; have KK0 := blk_below K0 hb; have KK1 := blk_below K1 hb; have HB1 := Q4 (below_step HB.out hb); have hsz1 := hb.size; rw [hsz] at hsz1; have hd0 := blk_cell KK0 0; have hd1 := blk_cell KK0 1; have he0 := blk_cell KK1 0; have he1 := blk_cell KK1 1; have hf0 := blk_frozen KK1 0; have hf1 := blk_frozen KK1 1; simp only [List.getElem?_toArray, List.getElem?_cons_zero, List.getElem?_cons_succ] at hd0 hd1 he0 he1)
  have HF := (HB1.out.setCell (p := ⟨w.heap.size + 1, 0, none⟩) (by simp) (.slice A0 l0.length c0)).setCell (p := ⟨w.heap.size + 1, 1, none⟩) (by simp) (.slice A1 l1.length c1)
  refine bodyPost_ret (results_ctt rfl _ _ (w.heap.size + 1) 27 #[.slice A0 l0.length c0, .slice A1 l1.length c1] (0, 0) _ rfl (blk_put (blk_put KK1 0 _ rfl) 1 _ rfl) Try.underlying27 rfl (by kernel_rfl)) rfl ?_
  exact ⟨_, _, rfl, Kd.V_mono (Kd.V_below HS0.out HF) (fun k hk => .inl (.inl hk.1)), Kd.V_mono (Kd.V_below HS1.out HF) (fun k hk => .inl (.inr hk.1)), HF⟩
set_option maxRecDepth 100000 in
set_option maxHeartbeats 8000000 in
theorem Add_most (k : Nat) (P0 P1 : Nat → Prop) (A0 A2 : Option Addr) (ad1 : Addr) (c0 c1 c2 : Nat) (l0 : List (List S57)) (l1 : List Int) (l : List S57) (w : World)
    (hs0 : Kd.V (Kd.slice 57 k57) 29 w w.heap.size P0 (.slice A0 l0.length c0) l0) (hs1 : Kd.V (Kd.int .i64) 3 w w.heap.size P1 (.slice (some ad1) l1.length c1) l1) (hr2 : Kd.C k57 w A2 l.length l) (hc2 : l.length ≤ c2) (hg : intern_good.f k l = some true) (hl0 : l0.length < 5864062014805) (hl1 : l1.length < 17592186044416) (z : Nat) (hz : z < l1.length) (hfi : findIn l0 l (liveTo l1 (both l0 l1)) = ((z : Int), true)) (hq : rd l1 (z : Int) = 1073741824) :
    Calls Try.prog 8 #[.agg #[.slice A0 l0.length c0, .slice (some ad1) l1.length c1], .slice A2 l.length c2] w fun e w' => ∃ v0_ v1_ : Value, e = .returned (.tuple #[.agg #[v0_, v1_], .int .i64 0, .int .i64 13]) ∧ Kd.V (Kd.slice 57 k57) 29 w' w.heap.size (fun k_ => ((P0 k_ ∨ P1 k_) ∨ w.heap.size ≤ k_)) v0_ l0 ∧ Kd.V (Kd.int .i64) 3 w' w.heap.size (fun k_ => ((P0 k_ ∨ P1 k_) ∨ w.heap.size ≤ k_)) v1_ l1 ∧ Below w.heap.size w w' := by
  have HG := Q4 hg
  clear hg
  obtain ⟨adx, e1, hx1⟩ := Kd.at_int (Kd.V_reads' hs1).2.2 (z : Int) (by omega) (by omega)
  cases e1
  simp only [Int.toNat_natCast] at hx1
  rw [hq] at hx1
  have p1 : ((z : Int) < (l1.length : Int)) = True := eq_true (by omega)
  have HS0 := Q4 (Kd.V_bound hs0)
  have HS1 := Q4 (Kd.V_bound hs1)
  have HR2 := Q4 hr2
  have HB := Q4 ((((Below.refl _ w).alloc (Nat.le_refl _) (.cells #[.slice A0 l0.length c0, .slice (some ad1) l1.length c1] 27)).alloc (by simp) (.cells #[.slice none 0 0, .slice none 0 0] 27)))
  have hsz : ((w.alloc (.cells #[.slice A0 l0.length c0, .slice (some ad1) l1.length c1] 27)).alloc (.cells #[.slice none 0 0, .slice none 0 0] 27)).heap.size = w.heap.size + 2 := by simp
  have K0 : ((w.alloc (.cells #[.slice A0 l0.length c0, .slice (some ad1) l1.length c1] 27)).alloc (.cells #[.slice none 0 0, .slice none 0 0] 27)).heap[w.heap.size]? = some (.cells #[.slice A0 l0.length c0, .slice (some ad1) l1.length c1] 27 (0, 0)) := Q7 (blk_new w _) _
  have K1 : ((w.alloc (.cells #[.slice A0 l0.length c0, .slice (some ad1) l1.length c1] 27)).alloc (.cells #[.slice none 0 0, .slice none 0 0] 27)).heap[w.heap.size + 1]? = some (.cells #[.slice none 0 0, .slice none 0 0] 27 (0, 0)) := by
    have := blk_new (w.alloc (.cells #[.slice A0 l0.length c0, .slice (some ad1) l1.length c1] 27)) (.cells #[.slice none 0 0, .slice none 0 0] 27)
    rwa [World.size_alloc] at this
  have V0 := Kd.V_alloc (Kd.V_alloc HS0.out (.cells #[.slice A0 l0.length c0, .slice (some ad1) l1.length c1] 27)) (.cells #[.slice none 0 0, .slice none 0 0] 27)
  clear hs0 hs1 hr2
  have HLM0 := Q4 hl0
  have HLM1 := Q4 hl1
  have HFI := Q4 hfi
  clear hl0 hl1 hfi
  go_enter Try.func8, Try.ntmps8
  go_wp2_with (first|(go_at_call 26; (with_reducible refine (intern_good.calls k A2 c2 l true _ ?s1 hc2 HG.out).mono ?_); (case s1 => exact Kd.C_below HR2.out (by repeat (first|(with_reducible first|exact HB.out|apply Q8|apply Q5|apply Q9)|exact HB.out))); rintro e w1 ⟨rfl, hb⟩; have KK0 := blk_below K0 hb; have KK1 := blk_below K1 hb; have HB1 := Q4 (below_step HB.out hb); have hsz1 := hb.size; rw [hsz] at hsz1; have hd0 := blk_cell KK0 0; have hd1 := blk_cell KK0 1; simp only [List.getElem?_toArray, List.getElem?_cons_zero, List.getElem?_cons_succ] at hd0 hd1; clear hb)|(go_at_call 27; (with_reducible refine (own_any (fun k => P0 k ∧ k < w.heap.size) w1.heap.size A0 (some ad1) c0 c1 l0 l1 _ ?s1 ?s2 ?s3 ?s4 ?s5 HLM0.out HLM1.out).mono ?_); (case s1 => exact blk_new w1 _); (case s2 => exact fun k hk => by have := hk.2; omega); (case s3 => exact Kd.V_below HS0.out (Q8 HB1.out _)); (case s4 => exact Kd.C_below (Kd.V_reads' HS1.out).2.2 (Q8 HB1.out _)); (case s5 => exact (Kd.V_reads' HS1.out).2.1); rintro e w2 ⟨⟨ve, rfl⟩, v0, v1, hbg, hn, hi, hb⟩; obtain ⟨AN, cN, rfl⟩ := Kd.N_slice hn; obtain ⟨AI, cI, rfl⟩ := Kd.R_slice hi; have LK0 := (hb.block w.heap.size (by omega)).trans (Q7 KK0 _); have LK1 := (hb.block (w.heap.size + 1) (by omega)).trans (Q7 KK1 _); have HB2 := Q4 ((Q8 HB1.out _).trans (hb.mono (by omega))); have hsz2 := hb.size; rw [World.size_alloc] at hsz2 hn hi; have HN := Q4 hn; have HI := Q4 hi; clear hn hi hb hd0 hd1; have hd0 := blk_cell LK0 0; have hd1 := blk_cell LK0 1; simp only [List.getElem?_toArray, List.getElem?_cons_zero, List.getElem?_cons_succ] at hd0 hd1)|(go_at_call 13; (with_reducible refine (Find_any A0 (some ad1) A2 c0 c1 c2 l0 l1 l _ ?s1 ?s2 ?s3 hc2).mono ?_); (case s1 => exact Kd.C_below (Kd.V_reads' HS0.out).2.2 HB2.out); (case s2 => exact Kd.C_below (Kd.V_reads' HS1.out).2.2 HB2.out); (case s3 => exact Kd.C_below HR2.out HB2.out); rw [HFI.out]; rintro e w3 ⟨rfl, hb⟩; have MK0 := blk_below LK0 hb; have MK1 := blk_below LK1 hb; have MKG := blk_below hbg hb; have MN := Q4 (Kd.N_below HN.out hb); have MI := Q4 (Kd.R_below HI.out hb); have HB3 := Q4 (below_step HB2.out hb); have hsz3 := hb.size; clear hb hd0 hd1 LK0 LK1 hbg HN HI; have hd0 := blk_cell MK0 0; have hd1 := blk_cell MK0 1; have hg0 := blk_cell MKG 0; have hg1 := blk_cell MKG 1; have he0 := blk_cell MK1 0; have he1 := blk_cell MK1 1; have hf0 := blk_frozen MK1 0; have hf1 := blk_frozen MK1 1; simp only [List.getElem?_toArray, List.getElem?_cons_zero, List.getElem?_cons_succ] at hd0 hd1 hg0 hg1 he0 he1; have hy1 := pw_cell_below HB3.out hx1))
  have HF := (HB3.out.setCell (p := ⟨w.heap.size + 1, 0, none⟩) (by simp) (.slice A0 l0.length c0)).setCell (p := ⟨w.heap.size + 1, 1, none⟩) (by simp) (.slice (some ad1) l1.length c1)
  refine bodyPost_ret (results_ctt rfl _ _ (w.heap.size + 1) 27 #[.slice A0 l0.length c0, .slice (some ad1) l1.length c1] (0, 0) _ rfl (blk_put (blk_put MK1 0 _ rfl) 1 _ rfl) Try.underlying27 rfl (by kernel_rfl)) rfl ?_
  exact ⟨_, _, rfl, Kd.V_mono (Kd.V_below HS0.out HF) (fun k hk => .inl (.inl hk.1)), Kd.V_mono (Kd.V_below HS1.out HF) (fun k hk => .inl (.inr hk.1)), HF⟩
set_option maxRecDepth 100000 in
set_option maxHeartbeats 8000000 in
theorem Add_more (k : Nat) (P0 P1 : Nat → Prop) (A0 A2 : Option Addr) (ad1 : Addr) (c0 c1 c2 : Nat) (l0 : List (List S57)) (l1 : List Int) (l : List S57) (w : World)
    (hs0 : Kd.V (Kd.slice 57 k57) 29 w w.heap.size P0 (.slice A0 l0.length c0) l0) (hs1 : Kd.V (Kd.int .i64) 3 w w.heap.size P1 (.slice (some ad1) l1.length c1) l1) (hr2 : Kd.C k57 w A2 l.length l) (hc2 : l.length ≤ c2) (hg : intern_good.f k l = some true) (hl0 : l0.length < 5864062014805) (hl1 : l1.length < 17592186044416) (z : Nat) (hz : z < l1.length) (hfi : findIn l0 l (liveTo l1 (both l0 l1)) = ((z : Int), true)) (n : Int) (hn1 : rd l1 (z : Int) = n) (hq : n ≠ 1073741824) :
    Calls Try.prog 8 #[.agg #[.slice A0 l0.length c0, .slice (some ad1) l1.length c1], .slice A2 l.length c2] w fun e w' => ∃ v0_ v1_ : Value, e = .returned (.tuple #[.agg #[v0_, v1_], .int .i64 z, .int .i64 0]) ∧ Kd.V (Kd.slice 57 k57) 29 w' w.heap.size (fun k_ => ((P0 k_ ∨ P1 k_) ∨ w.heap.size ≤ k_)) v0_ l0 ∧ Kd.V (Kd.int .i64) 3 w' w.heap.size (fun k_ => ((P0 k_ ∨ P1 k_) ∨ w.heap.size ≤ k_)) v1_ (l1.set z (wrap64 (n + 1))) ∧ Below w.heap.size w w' := by
  have HG := Q4 hg
  clear hg
  obtain ⟨adx, e1, hx1⟩ := Kd.at_int (Kd.V_reads' hs1).2.2 (z : Int) (by omega) (by omega)
  cases e1
  simp only [Int.toNat_natCast] at hx1
  rw [hn1] at hx1
  have HN1 := Q4 hn1
  clear hn1
  have p1 : ((z : Int) < (l1.length : Int)) = True := eq_true (by omega)
  have q1 : (n == 1073741824) = false := by simpa using hq
  have q2 : decide (n = 1073741824) = false := by simpa using hq
  have HS0 := Q4 (Kd.V_bound hs0)
  have HS1 := Q4 (Kd.V_bound hs1)
  have HR2 := Q4 hr2
  have HB := Q4 ((((Below.refl _ w).alloc (Nat.le_refl _) (.cells #[.slice A0 l0.length c0, .slice (some ad1) l1.length c1] 27)).alloc (by simp) (.cells #[.slice none 0 0, .slice none 0 0] 27)))
  have hsz : ((w.alloc (.cells #[.slice A0 l0.length c0, .slice (some ad1) l1.length c1] 27)).alloc (.cells #[.slice none 0 0, .slice none 0 0] 27)).heap.size = w.heap.size + 2 := by simp
  have K0 : ((w.alloc (.cells #[.slice A0 l0.length c0, .slice (some ad1) l1.length c1] 27)).alloc (.cells #[.slice none 0 0, .slice none 0 0] 27)).heap[w.heap.size]? = some (.cells #[.slice A0 l0.length c0, .slice (some ad1) l1.length c1] 27 (0, 0)) := Q7 (blk_new w _) _
  have K1 : ((w.alloc (.cells #[.slice A0 l0.length c0, .slice (some ad1) l1.length c1] 27)).alloc (.cells #[.slice none 0 0, .slice none 0 0] 27)).heap[w.heap.size + 1]? = some (.cells #[.slice none 0 0, .slice none 0 0] 27 (0, 0)) := by
    have := blk_new (w.alloc (.cells #[.slice A0 l0.length c0, .slice (some ad1) l1.length c1] 27)) (.cells #[.slice none 0 0, .slice none 0 0] 27)
    rwa [World.size_alloc] at this
  have V0 := Kd.V_alloc (Kd.V_alloc HS0.out (.cells #[.slice A0 l0.length c0, .slice (some ad1) l1.length c1] 27)) (.cells #[.slice none 0 0, .slice none 0 0] 27)
  clear hs0 hs1 hr2
  have HLM0 := Q4 hl0
  have HLM1 := Q4 hl1
  have HFI := Q4 hfi
  clear hl0 hl1 hfi
  go_enter Try.func8, Try.ntmps8
  go_wp2_with (first|(go_at_call 26; (with_reducible refine (intern_good.calls k A2 c2 l true _ ?s1 hc2 HG.out).mono ?_); (case s1 => exact Kd.C_below HR2.out (by repeat (first|(with_reducible first|exact HB.out|apply Q8|apply Q5|apply Q9)|exact HB.out))); rintro e w1 ⟨rfl, hb⟩; have KK0 := blk_below K0 hb; have KK1 := blk_below K1 hb; have HB1 := Q4 (below_step HB.out hb); have hsz1 := hb.size; rw [hsz] at hsz1; have hd0 := blk_cell KK0 0; have hd1 := blk_cell KK0 1; simp only [List.getElem?_toArray, List.getElem?_cons_zero, List.getElem?_cons_succ] at hd0 hd1; clear hb)|(go_at_call 27; (with_reducible refine (own_any (fun k => P0 k ∧ k < w.heap.size) w1.heap.size A0 (some ad1) c0 c1 l0 l1 _ ?s1 ?s2 ?s3 ?s4 ?s5 HLM0.out HLM1.out).mono ?_); (case s1 => exact blk_new w1 _); (case s2 => exact fun k hk => by have := hk.2; omega); (case s3 => exact Kd.V_below HS0.out (Q8 HB1.out _)); (case s4 => exact Kd.C_below (Kd.V_reads' HS1.out).2.2 (Q8 HB1.out _)); (case s5 => exact (Kd.V_reads' HS1.out).2.1); rintro e w2 ⟨⟨ve, rfl⟩, v0, v1, hbg, hn, hi, hb⟩; obtain ⟨AN, cN, rfl⟩ := Kd.N_slice hn; obtain ⟨AI, cI, rfl⟩ := Kd.R_slice hi; have LK0 := (hb.block w.heap.size (by omega)).trans (Q7 KK0 _); have LK1 := (hb.block (w.heap.size + 1) (by omega)).trans (Q7 KK1 _); have HB2 := Q4 ((Q8 HB1.out _).trans (hb.mono (by omega))); have hsz2 := hb.size; rw [World.size_alloc] at hsz2 hn hi; have HN := Q4 hn; have HI := Q4 hi; clear hn hi hb hd0 hd1; have hd0 := blk_cell LK0 0; have hd1 := blk_cell LK0 1; simp only [List.getElem?_toArray, List.getElem?_cons_zero, List.getElem?_cons_succ] at hd0 hd1)|(go_at_call 13; (with_reducible refine (Find_any A0 (some ad1) A2 c0 c1 c2 l0 l1 l _ ?s1 ?s2 ?s3 hc2).mono ?_); (case s1 => exact Kd.C_below (Kd.V_reads' HS0.out).2.2 HB2.out); (case s2 => exact Kd.C_below (Kd.V_reads' HS1.out).2.2 HB2.out); (case s3 => exact Kd.C_below HR2.out HB2.out); rw [HFI.out]; rintro e w3 ⟨rfl, hb⟩; have MK0 := blk_below LK0 hb; have MK1 := blk_below LK1 hb; have MKG := blk_below hbg hb; have MN := Q4 (Kd.N_below HN.out hb); have MI := Q4 (Kd.R_below HI.out hb); have HB3 := Q4 (below_step HB2.out hb); have hsz3 := hb.size; clear hb hd0 hd1 LK0 LK1 hbg HN HI; have hd0 := blk_cell MK0 0; have hd1 := blk_cell MK0 1; have hg0 := blk_cell MKG 0; have hg1 := blk_cell MKG 1; have he0 := blk_cell MK1 0; have he1 := blk_cell MK1 1; have hf0 := blk_frozen MK1 0; have hf1 := blk_frozen MK1 1; simp only [List.getElem?_toArray, List.getElem?_cons_zero, List.getElem?_cons_succ] at hd0 hd1 hg0 hg1 he0 he1; have hy1 := pw_cell_below HB3.out hx1; obtain ⟨gi, cap, hv, hgi, hgl, cells, hcells⟩ := Kd.R_form MI.out (by omega : 0 < l1.length); injection hv with hv1 hv2 hv3; subst hv1; subst hv3; have hcf := Kd.R_cell 0 MI.out (z : Int) (by omega) (by omega); have hi0 : w3.cell? ⟨gi, z, none⟩ = some (.int .i64 (rd l1 (z : Int))) := hcf.1; have hi1 : w3.frozen? ⟨gi, z, none⟩ = false := hcf.2; rw [HN1.out] at hi0; have hne : gi ≠ w1.heap.size := (by omega); have hne1 : gi ≠ w.heap.size + 1 := (by omega)))
  have B1 := blk_far MK1 (p := ⟨gi, z, none⟩) (by dsimp only; omega) (.int .i64 (wrap64 (n + 1)))
  have B2 := blk_put B1 0 (.slice AN l0.length cN) rfl
  have B3 := blk_put B2 1 (.slice (some ⟨gi, 0, none⟩) l1.length cI) rfl
  have HF := ((HB3.out.setCell (p := ⟨gi, z, none⟩) (by dsimp only; omega) (.int .i64 (wrap64 (n + 1)))).setCell (p := ⟨w.heap.size + 1, 0, none⟩) (by simp) (.slice AN l0.length cN)).setCell (p := ⟨w.heap.size + 1, 1, none⟩) (by simp) (.slice (some ⟨gi, 0, none⟩) l1.length cI)
  have NV := Kd.N_far (p := ⟨w.heap.size + 1, 1, none⟩) (Kd.N_far (p := ⟨w.heap.size + 1, 0, none⟩) (Kd.N_far (p := ⟨gi, z, none⟩) MN.out (fun k hk e => hk.2 (by rw [e]; rfl)) (.int .i64 (wrap64 (n + 1)))) (fun k hk => by rcases hk.1 with hq | hq; (have := hq.2; dsimp only; omega); dsimp only; omega) (.slice AN l0.length cN)) (fun k hk => by rcases hk.1 with hq | hq; (have := hq.2; dsimp only; omega); dsimp only; omega) (.slice (some ⟨gi, 0, none⟩) l1.length cI)
  have RV := Kd.R_set (Kd.R_set (Kd.R_put MI.out (z : Int) (wrap64 (n + 1))).1 B1 (by decide) 0 (.slice AN l0.length cN)) B2 (by decide) 1 (.slice (some ⟨gi, 0, none⟩) l1.length cI)
  refine bodyPost_ret (results_ctt rfl _ _ (w.heap.size + 1) 27 #[.slice AN l0.length cN, .slice (some ⟨gi, 0, none⟩) l1.length cI] (0, 0) _ rfl B3 Try.underlying27 rfl (by kernel_rfl)) rfl ?_
  refine ⟨_, _, rfl, Kd.V_mono (Kd.N_V NV) (fun k hk => ?_), Kd.V_mono (Kd.R_V (Kd.R_bound RV)) (fun k hk => .inr (by have := hk.2.1; omega)), HF⟩
  rcases hk.1 with hq | hq
  · exact .inl (.inl hq.1)
  · exact .inr (by omega)
set_option maxRecDepth 100000 in
set_option maxHeartbeats 8000000 in
theorem Add_full (k : Nat) (P0 P1 : Nat → Prop) (A0 A1 A2 : Option Addr) (c0 c1 c2 : Nat) (l0 : List (List S57)) (l1 : List Int) (l : List S57) (w : World)
    (hs0 : Kd.V (Kd.slice 57 k57) 29 w w.heap.size P0 (.slice A0 l0.length c0) l0) (hs1 : Kd.V (Kd.int .i64) 3 w w.heap.size P1 (.slice A1 l1.length c1) l1) (hr2 : Kd.C k57 w A2 l.length l) (hc2 : l.length ≤ c2) (hg : intern_good.f k l = some true) (hl0 : l0.length < 5864062014805) (hl1 : l1.length < 17592186044416) (hfi : findIn l0 l (liveTo l1 (both l0 l1)) = (0, false)) (hF : freeFrom l1 0 = 64) :
    Calls Try.prog 8 #[.agg #[.slice A0 l0.length c0, .slice A1 l1.length c1], .slice A2 l.length c2] w fun e w' => ∃ v0_ v1_ : Value, e = .returned (.tuple #[.agg #[v0_, v1_], .int .i64 0, .int .i64 6]) ∧ Kd.V (Kd.slice 57 k57) 29 w' w.heap.size (fun k_ => ((P0 k_ ∨ P1 k_) ∨ w.heap.size ≤ k_)) v0_ l0 ∧ Kd.V (Kd.int .i64) 3 w' w.heap.size (fun k_ => ((P0 k_ ∨ P1 k_) ∨ w.heap.size ≤ k_)) v1_ l1 ∧ Below w.heap.size w w' := by
  have HG := Q4 hg
  clear hg
  have HS0 := Q4 (Kd.V_bound hs0)
  have HS1 := Q4 (Kd.V_bound hs1)
  have HR2 := Q4 hr2
  have HB := Q4 ((((Below.refl _ w).alloc (Nat.le_refl _) (.cells #[.slice A0 l0.length c0, .slice A1 l1.length c1] 27)).alloc (by simp) (.cells #[.slice none 0 0, .slice none 0 0] 27)))
  have hsz : ((w.alloc (.cells #[.slice A0 l0.length c0, .slice A1 l1.length c1] 27)).alloc (.cells #[.slice none 0 0, .slice none 0 0] 27)).heap.size = w.heap.size + 2 := by simp
  have K0 : ((w.alloc (.cells #[.slice A0 l0.length c0, .slice A1 l1.length c1] 27)).alloc (.cells #[.slice none 0 0, .slice none 0 0] 27)).heap[w.heap.size]? = some (.cells #[.slice A0 l0.length c0, .slice A1 l1.length c1] 27 (0, 0)) := Q7 (blk_new w _) _
  have K1 : ((w.alloc (.cells #[.slice A0 l0.length c0, .slice A1 l1.length c1] 27)).alloc (.cells #[.slice none 0 0, .slice none 0 0] 27)).heap[w.heap.size + 1]? = some (.cells #[.slice none 0 0, .slice none 0 0] 27 (0, 0)) := by
    have := blk_new (w.alloc (.cells #[.slice A0 l0.length c0, .slice A1 l1.length c1] 27)) (.cells #[.slice none 0 0, .slice none 0 0] 27)
    rwa [World.size_alloc] at this
  have V0 := Kd.V_alloc (Kd.V_alloc HS0.out (.cells #[.slice A0 l0.length c0, .slice A1 l1.length c1] 27)) (.cells #[.slice none 0 0, .slice none 0 0] 27)
  clear hs0 hs1 hr2
  have HLM0 := Q4 hl0
  have HLM1 := Q4 hl1
  have HFI := Q4 hfi
  clear hl0 hl1 hfi
  have HFF := Q4 hF
  clear hF
  go_enter Try.func8, Try.ntmps8
  go_wp2_with (first|(go_at_call 26; (with_reducible refine (intern_good.calls k A2 c2 l true _ ?s1 hc2 HG.out).mono ?_); (case s1 => exact Kd.C_below HR2.out (by repeat (first|(with_reducible first|exact HB.out|apply Q8|apply Q5|apply Q9)|exact HB.out))); rintro e w1 ⟨rfl, hb⟩; have KK0 := blk_below K0 hb; have KK1 := blk_below K1 hb; have HB1 := Q4 (below_step HB.out hb); have hsz1 := hb.size; rw [hsz] at hsz1; have hd0 := blk_cell KK0 0; have hd1 := blk_cell KK0 1; simp only [List.getElem?_toArray, List.getElem?_cons_zero, List.getElem?_cons_succ] at hd0 hd1; clear hb)|(go_at_call 27; (with_reducible refine (own_any (fun k => P0 k ∧ k < w.heap.size) w1.heap.size A0 A1 c0 c1 l0 l1 _ ?s1 ?s2 ?s3 ?s4 ?s5 HLM0.out HLM1.out).mono ?_); (case s1 => exact blk_new w1 _); (case s2 => exact fun k hk => by have := hk.2; omega); (case s3 => exact Kd.V_below HS0.out (Q8 HB1.out _)); (case s4 => exact Kd.C_below (Kd.V_reads' HS1.out).2.2 (Q8 HB1.out _)); (case s5 => exact (Kd.V_reads' HS1.out).2.1); rintro e w2 ⟨⟨ve, rfl⟩, v0, v1, hbg, hn, hi, hb⟩; obtain ⟨AN, cN, rfl⟩ := Kd.N_slice hn; obtain ⟨AI, cI, rfl⟩ := Kd.R_slice hi; have LK0 := (hb.block w.heap.size (by omega)).trans (Q7 KK0 _); have LK1 := (hb.block (w.heap.size + 1) (by omega)).trans (Q7 KK1 _); have HB2 := Q4 ((Q8 HB1.out _).trans (hb.mono (by omega))); have hsz2 := hb.size; rw [World.size_alloc] at hsz2 hn hi; have HN := Q4 hn; have HI := Q4 hi; clear hn hi hb hd0 hd1; have hd0 := blk_cell LK0 0; have hd1 := blk_cell LK0 1; simp only [List.getElem?_toArray, List.getElem?_cons_zero, List.getElem?_cons_succ] at hd0 hd1)|(go_at_call 13; (with_reducible refine (Find_any A0 A1 A2 c0 c1 c2 l0 l1 l _ ?s1 ?s2 ?s3 hc2).mono ?_); (case s1 => exact Kd.C_below (Kd.V_reads' HS0.out).2.2 HB2.out); (case s2 => exact Kd.C_below (Kd.V_reads' HS1.out).2.2 HB2.out); (case s3 => exact Kd.C_below HR2.out HB2.out); rw [HFI.out]; rintro e w3 ⟨rfl, hb⟩; have MK0 := blk_below LK0 hb; have MK1 := blk_below LK1 hb; have MKG := blk_below hbg hb; have MN := Q4 (Kd.N_below HN.out hb); have MI := Q4 (Kd.R_below HI.out hb); have HB3 := Q4 (below_step HB2.out hb); have hsz3 := hb.size; clear hb hd0 hd1 LK0 LK1 hbg HN HI; have hd0 := blk_cell MK0 0; have hd1 := blk_cell MK0 1; have hg0 := blk_cell MKG 0; have hg1 := blk_cell MKG 1; have he0 := blk_cell MK1 0; have he1 := blk_cell MK1 1; have hf0 := blk_frozen MK1 0; have hf1 := blk_frozen MK1 1; simp only [List.getElem?_toArray, List.getElem?_cons_zero, List.getElem?_cons_succ] at hd0 hd1 hg0 hg1 he0 he1; skip)|(go_at_call 28; (with_reducible refine (free_any w1.heap.size (.slice AN l0.length cN) AI cI l1 _ ?s1 ?s2 ?s3).mono ?_); (case s1 => exact MKG); (case s2 => exact (Kd.R_reads' MI.out).2.2); (case s3 => exact (Kd.R_reads' MI.out).2.1); rw [HFF.out]; rintro e w4 ⟨rfl, hb⟩; have QK0 := blk_below MK0 hb; have QK1 := blk_below MK1 hb; have QKG := blk_below MKG hb; have QN := Q4 (Kd.N_below MN.out hb); have QI := Q4 (Kd.R_below MI.out hb); have HB4 := Q4 (below_step HB3.out hb); have hsz4 := hb.size; clear hb hd0 hd1 hg0 hg1 he0 he1 hf0 hf1 MK0 MK1 MKG MN MI; have hd0 := blk_cell QK0 0; have hd1 := blk_cell QK0 1; have hg0 := blk_cell QKG 0; have hg1 := blk_cell QKG 1; have hk0 := blk_frozen QKG 0; have hk1 := blk_frozen QKG 1; have he0 := blk_cell QK1 0; have he1 := blk_cell QK1 1; have hf0 := blk_frozen QK1 0; have hf1 := blk_frozen QK1 1; simp only [List.getElem?_toArray, List.getElem?_cons_zero, List.getElem?_cons_succ] at hd0 hd1 hg0 hg1 he0 he1; skip))
  have HF := (HB4.out.setCell (p := ⟨w.heap.size + 1, 0, none⟩) (by simp) (.slice A0 l0.length c0)).setCell (p := ⟨w.heap.size + 1, 1, none⟩) (by simp) (.slice A1 l1.length c1)
  refine bodyPost_ret (results_ctt rfl _ _ (w.heap.size + 1) 27 #[.slice A0 l0.length c0, .slice A1 l1.length c1] (0, 0) _ rfl (blk_put (blk_put QK1 0 _ rfl) 1 _ rfl) Try.underlying27 rfl (by kernel_rfl)) rfl ?_
  exact ⟨_, _, rfl, Kd.V_mono (Kd.V_below HS0.out HF) (fun k hk => .inl (.inl hk.1)), Kd.V_mono (Kd.V_below HS1.out HF) (fun k hk => .inl (.inr hk.1)), HF⟩
set_option maxRecDepth 100000 in
set_option maxHeartbeats 8000000 in
theorem Add_mid (k : Nat) (P0 P1 : Nat → Prop) (A0 A1 A2 : Option Addr) (c0 c1 c2 : Nat) (l0 : List (List S57)) (l1 : List Int) (l : List S57) (w : World)
    (hs0 : Kd.V (Kd.slice 57 k57) 29 w w.heap.size P0 (.slice A0 l0.length c0) l0) (hs1 : Kd.V (Kd.int .i64) 3 w w.heap.size P1 (.slice A1 l1.length c1) l1) (hr2 : Kd.C k57 w A2 l.length l) (hc2 : l.length ≤ c2) (hg : intern_good.f k l = some true) (hl0 : l0.length < 5864062014805) (hl1 : l1.length < 17592186044416) (hfi : findIn l0 l (liveTo l1 (both l0 l1)) = (0, false)) (z : Nat) (hF : freeFrom l1 0 = z) (hz64 : z ≠ 64) (hz : z < l1.length) (hz0 : z < l0.length) (hl2 : l.length < 8796093022208) :
    Calls Try.prog 8 #[.agg #[.slice A0 l0.length c0, .slice A1 l1.length c1], .slice A2 l.length c2] w fun e w' => ∃ v0_ v1_ : Value, e = .returned (.tuple #[.agg #[v0_, v1_], .int .i64 z, .int .i64 0]) ∧ Kd.V (Kd.slice 57 k57) 29 w' w.heap.size (fun k_ => ((P0 k_ ∨ P1 k_) ∨ w.heap.size ≤ k_)) v0_ (l0.set z l) ∧ Kd.V (Kd.int .i64) 3 w' w.heap.size (fun k_ => ((P0 k_ ∨ P1 k_) ∨ w.heap.size ≤ k_)) v1_ (l1.set z 1) ∧ Below w.heap.size w w' := by
  have HG := Q4 hg
  clear hg
  have HS0 := Q4 (Kd.V_bound hs0)
  have HS1 := Q4 (Kd.V_bound hs1)
  have HR2 := Q4 hr2
  have HB := Q4 ((((Below.refl _ w).alloc (Nat.le_refl _) (.cells #[.slice A0 l0.length c0, .slice A1 l1.length c1] 27)).alloc (by simp) (.cells #[.slice none 0 0, .slice none 0 0] 27)))
  have hsz : ((w.alloc (.cells #[.slice A0 l0.length c0, .slice A1 l1.length c1] 27)).alloc (.cells #[.slice none 0 0, .slice none 0 0] 27)).heap.size = w.heap.size + 2 := by simp
  have K0 : ((w.alloc (.cells #[.slice A0 l0.length c0, .slice A1 l1.length c1] 27)).alloc (.cells #[.slice none 0 0, .slice none 0 0] 27)).heap[w.heap.size]? = some (.cells #[.slice A0 l0.length c0, .slice A1 l1.length c1] 27 (0, 0)) := Q7 (blk_new w _) _
  have K1 : ((w.alloc (.cells #[.slice A0 l0.length c0, .slice A1 l1.length c1] 27)).alloc (.cells #[.slice none 0 0, .slice none 0 0] 27)).heap[w.heap.size + 1]? = some (.cells #[.slice none 0 0, .slice none 0 0] 27 (0, 0)) := by
    have := blk_new (w.alloc (.cells #[.slice A0 l0.length c0, .slice A1 l1.length c1] 27)) (.cells #[.slice none 0 0, .slice none 0 0] 27)
    rwa [World.size_alloc] at this
  have V0 := Kd.V_alloc (Kd.V_alloc HS0.out (.cells #[.slice A0 l0.length c0, .slice A1 l1.length c1] 27)) (.cells #[.slice none 0 0, .slice none 0 0] 27)
  clear hs0 hs1 hr2
  have HLM0 := Q4 hl0
  have HLM1 := Q4 hl1
  have HFI := Q4 hfi
  clear hl0 hl1 hfi
  have HFF := Q4 hF
  clear hF
  have q1 : ((z : Int) == 64) = false := by simp; omega
  have q2 : decide ((z : Int) = 64) = false := by simp; omega
  have q3 : ((z : Int) == (l1.length : Int)) = false := by simp; omega
  have q4 : decide ((z : Int) = (l1.length : Int)) = false := by simp; omega
  have p0 : ((z : Int) < (l0.length : Int)) = True := eq_true (by omega)
  have p1 : ((z : Int) < (l1.length : Int)) = True := eq_true (by omega)
  have HCL := Q4 (show slices_ClonePair.f l = some l by unfold slices_ClonePair.f; rw [if_pos hl2])
  go_enter Try.func8, Try.ntmps8
  go_wp2_with (first|(go_at_call 26; (with_reducible refine (intern_good.calls k A2 c2 l true _ ?s1 hc2 HG.out).mono ?_); (case s1 => exact Kd.C_below HR2.out (by repeat (first|(with_reducible first|exact HB.out|apply Q8|apply Q5|apply Q9)|exact HB.out))); rintro e w1 ⟨rfl, hb⟩; have KK0 := blk_below K0 hb; have KK1 := blk_below K1 hb; have HB1 := Q4 (below_step HB.out hb); have hsz1 := hb.size; rw [hsz] at hsz1; have hd0 := blk_cell KK0 0; have hd1 := blk_cell KK0 1; simp only [List.getElem?_toArray, List.getElem?_cons_zero, List.getElem?_cons_succ] at hd0 hd1; clear hb)|(go_at_call 27; (with_reducible refine (own_any (fun k => P0 k ∧ k < w.heap.size) w1.heap.size A0 A1 c0 c1 l0 l1 _ ?s1 ?s2 ?s3 ?s4 ?s5 HLM0.out HLM1.out).mono ?_); (case s1 => exact blk_new w1 _); (case s2 => exact fun k hk => by have := hk.2; omega); (case s3 => exact Kd.V_below HS0.out (Q8 HB1.out _)); (case s4 => exact Kd.C_below (Kd.V_reads' HS1.out).2.2 (Q8 HB1.out _)); (case s5 => exact (Kd.V_reads' HS1.out).2.1); rintro e w2 ⟨⟨ve, rfl⟩, v0, v1, hbg, hn, hi, hb⟩; obtain ⟨AN, cN, rfl⟩ := Kd.N_slice hn; obtain ⟨AI, cI, rfl⟩ := Kd.R_slice hi; have LK0 := (hb.block w.heap.size (by omega)).trans (Q7 KK0 _); have LK1 := (hb.block (w.heap.size + 1) (by omega)).trans (Q7 KK1 _); have HB2 := Q4 ((Q8 HB1.out _).trans (hb.mono (by omega))); have hsz2 := hb.size; rw [World.size_alloc] at hsz2 hn hi; have HN := Q4 hn; have HI := Q4 hi; clear hn hi hb hd0 hd1; have hd0 := blk_cell LK0 0; have hd1 := blk_cell LK0 1; simp only [List.getElem?_toArray, List.getElem?_cons_zero, List.getElem?_cons_succ] at hd0 hd1)|(go_at_call 13; (with_reducible refine (Find_any A0 A1 A2 c0 c1 c2 l0 l1 l _ ?s1 ?s2 ?s3 hc2).mono ?_); (case s1 => exact Kd.C_below (Kd.V_reads' HS0.out).2.2 HB2.out); (case s2 => exact Kd.C_below (Kd.V_reads' HS1.out).2.2 HB2.out); (case s3 => exact Kd.C_below HR2.out HB2.out); rw [HFI.out]; rintro e w3 ⟨rfl, hb⟩; have MK0 := blk_below LK0 hb; have MK1 := blk_below LK1 hb; have MKG := blk_below hbg hb; have MN := Q4 (Kd.N_below HN.out hb); have MI := Q4 (Kd.R_below HI.out hb); have HB3 := Q4 (below_step HB2.out hb); have hsz3 := hb.size; clear hb hd0 hd1 LK0 LK1 hbg HN HI; have hd0 := blk_cell MK0 0; have hd1 := blk_cell MK0 1; have hg0 := blk_cell MKG 0; have hg1 := blk_cell MKG 1; have he0 := blk_cell MK1 0; have he1 := blk_cell MK1 1; have hf0 := blk_frozen MK1 0; have hf1 := blk_frozen MK1 1; simp only [List.getElem?_toArray, List.getElem?_cons_zero, List.getElem?_cons_succ] at hd0 hd1 hg0 hg1 he0 he1; skip)|(go_at_call 28; (with_reducible refine (free_any w1.heap.size (.slice AN l0.length cN) AI cI l1 _ ?s1 ?s2 ?s3).mono ?_); (case s1 => exact MKG); (case s2 => exact (Kd.R_reads' MI.out).2.2); (case s3 => exact (Kd.R_reads' MI.out).2.1); rw [HFF.out]; rintro e w4 ⟨rfl, hb⟩; have QK0 := blk_below MK0 hb; have QK1 := blk_below MK1 hb; have QKG := blk_below MKG hb; have QN := Q4 (Kd.N_below MN.out hb); have QI := Q4 (Kd.R_below MI.out hb); have HB4 := Q4 (below_step HB3.out hb); have hsz4 := hb.size; clear hb hd0 hd1 hg0 hg1 he0 he1 hf0 hf1 MK0 MK1 MKG MN MI; have hd0 := blk_cell QK0 0; have hd1 := blk_cell QK0 1; have hg0 := blk_cell QKG 0; have hg1 := blk_cell QKG 1; have hk0 := blk_frozen QKG 0; have hk1 := blk_frozen QKG 1; have he0 := blk_cell QK1 0; have he1 := blk_cell QK1 1; have hf0 := blk_frozen QK1 0; have hf1 := blk_frozen QK1 1; simp only [List.getElem?_toArray, List.getElem?_cons_zero, List.getElem?_cons_succ] at hd0 hd1 hg0 hg1 he0 he1; obtain ⟨gi, cap, hv, hgi, hgl, cells, hcells⟩ := Kd.R_form QI.out (by omega : 0 < l1.length); injection hv with hv1 hv2 hv3; subst hv1; subst hv3; obtain ⟨gn, cap2, hv, hni, hnl, cells2, hcells2⟩ := Kd.N_form QN.out (by omega : 0 < l0.length); injection hv with hv1 hv2 hv3; subst hv1; subst hv3; have hne := blk_ne hcells2 hcells (by decide); have hne1 : gi ≠ w1.heap.size := (by omega); have hne2 : gi ≠ w.heap.size + 1 := (by omega); have hne3 : gn ≠ w1.heap.size := (by omega); have hne4 : gn ≠ w.heap.size + 1 := (by omega)))
  go_region_with (go_at_call 29; (with_reducible refine (slices_ClonePair.calls A2 c2 l l _ ?s1 hc2 HCL.out).mono ?_); (case s1 => exact Kd.C_below HR2.out (by repeat (first|(with_reducible first|exact HB4.out|apply Q8|apply Q5|apply Q9)|exact HB4.out))); rintro e w5 ⟨vl, rfl, ho, hb⟩; obtain ⟨AL, cL, rfl⟩ := Kd.R_slice ho; replace hb : Below w4.heap.size w4 w5 := ((Below.refl w4.heap.size w4).drew).trans hb; replace ho : Kd.R k57 57 w5 w4.heap.size (fun _ => True) (.slice AL l.length cL) l := ho; have RKG := blk_below QKG hb; have RK1 := blk_below QK1 hb; have RI := Q4 (Kd.R_below QI.out hb); have HB5 := Q4 (below_step HB4.out hb); have hsz5 := hb.size; obtain ⟨hn6, ⟨un, hun⟩, hfn⟩ := N_setLab (Kd.N_below QN.out hb) z hz0 AL cL l (Kd.R_reads' ho).2.1 (Kd.R_F (Kd.R_bound ho)) (fun k hk => ⟨⟨.inr (by have := hk.2.1; omega), fun e => by have := hk.2.1; have e2 : k = gi := (by simpa [Value.ownBlock] using e); omega⟩, by have := hk.2.1; omega⟩); have RN := Q4 hn6; have hcf := Kd.R_cell 0 RI.out (z : Int) (by omega) (by omega); have ri0 : w5.cell? ⟨gi, z, none⟩ = some (.int .i64 (rdOf 0 l1 (z : Int))) := hcf.1; have ri1 : w5.frozen? ⟨gi, z, none⟩ = false := hcf.2; clear hn6 hcf ho hb; have rg0 := blk_cell RKG 0; have rg1 := blk_cell RKG 1; have rf0 := blk_frozen RKG 0; have rf1 := blk_frozen RKG 1; have re0 := blk_cell RK1 0; have re1 := blk_cell RK1 1; have rh0 := blk_frozen RK1 0; have rh1 := blk_frozen RK1 1; simp only [List.getElem?_toArray, List.getElem?_cons_zero, List.getElem?_cons_succ] at rg0 rg1 re0 re1)
  all_goals go_wp2
  all_goals
    have D1 := blk_far (blk_far RK1 (p := ⟨gn, z, none⟩) (by dsimp only; omega) (.slice AL l.length cL)) (p := ⟨gi, z, none⟩) (by dsimp only; omega) (.int .i64 1)
    have D2 := blk_put D1 0 (.slice (some ⟨gn, 0, none⟩) l0.length cN) rfl
    have D3 := blk_put D2 1 (.slice (some ⟨gi, 0, none⟩) l1.length cI) rfl
    have HF := (((HB5.out.setCell (p := ⟨gn, z, none⟩) (by dsimp only; omega) (.slice AL l.length cL)).setCell (p := ⟨gi, z, none⟩) (by dsimp only; omega) (.int .i64 1)).setCell (p := ⟨w.heap.size + 1, 0, none⟩) (by simp) (.slice (some ⟨gn, 0, none⟩) l0.length cN)).setCell (p := ⟨w.heap.size + 1, 1, none⟩) (by simp) (.slice (some ⟨gi, 0, none⟩) l1.length cI)
    have NV := Kd.N_far (p := ⟨w.heap.size + 1, 1, none⟩) (Kd.N_far (p := ⟨w.heap.size + 1, 0, none⟩) (Kd.N_far (p := ⟨gi, z, none⟩) RN.out (fun k hk e => hk.2 (by rw [e]; rfl)) (.int .i64 1)) (fun k hk => by rcases hk.1 with hq | hq; (have := hq.2; dsimp only; omega); dsimp only; omega) (.slice (some ⟨gn, 0, none⟩) l0.length cN)) (fun k hk => by rcases hk.1 with hq | hq; (have := hq.2; dsimp only; omega); dsimp only; omega) (.slice (some ⟨gi, 0, none⟩) l1.length cI)
    have RV0 := Kd.R_far1 RI.out rfl (g := gn) (by simp [Value.ownBlock]; omega)
    have RV1 := Kd.R_mono (Kd.R_far (p := ⟨gn, z, none⟩) RV0 (fun _ hk => hk.2) (.slice AL l.length cL)) (ok' := fun _ => True) (fun _ _ => trivial)
    have RV := Kd.R_set (Kd.R_set (Kd.R_put RV1 (z : Int) 1).1 D1 (by decide) 0 (.slice (some ⟨gn, 0, none⟩) l0.length cN)) D2 (by decide) 1 (.slice (some ⟨gi, 0, none⟩) l1.length cI)
    refine bodyPost_ret (results_ctt rfl _ _ (w.heap.size + 1) 27 #[.slice (some ⟨gn, 0, none⟩) l0.length cN, .slice (some ⟨gi, 0, none⟩) l1.length cI] (0, 0) _ rfl D3 Try.underlying27 rfl (by kernel_rfl)) rfl ?_
    refine ⟨_, _, rfl, Kd.V_mono (Kd.N_V NV) (fun k hk => ?_), Kd.V_mono (Kd.R_V (Kd.R_bound RV)) (fun k hk => .inr (by have := hk.2.1; omega)), HF⟩
    rcases hk.1 with hq | hq
    · exact .inl (.inl hq.1)
    · exact .inr (by omega)
end Go.Proofs.Ytfoagjdcgipcaaa.X
