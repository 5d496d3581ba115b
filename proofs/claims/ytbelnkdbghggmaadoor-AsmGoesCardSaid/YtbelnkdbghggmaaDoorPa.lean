/- Contract of asm.Put in the form of the printed contracts. -/
import Derived.Test.YtbelnkdbghggmaaDoorPt
namespace Go.Proofs.YtbelnkdbghggmaaDoor.X
open Go.RowKit Go.Proofs.YtbelnkdbghggmaaDoorW.PrintWords Go.Proofs.YtbelnkdbghggmaaDoorW.PrintLast
set_option linter.unusedVariables false
set_option linter.unusedSimpArgs false
theorem getL_bd (k : ByteArray) : ∀ m : Marks, (∀ e ∈ m, 0 ≤ e.2 ∧ e.2 ≤ 1099511627776) → 0 ≤ Mp.getL k 0 m ∧ Mp.getL k 0 m ≤ 1099511627776
  | [], _ => by simp [Mp.getL]
  | (a, v) :: r, h => by
    simp only [Mp.getL]
    split
    · exact h (a, v) List.mem_cons_self
    · exact getL_bd k r (fun e he => h e (List.mem_cons_of_mem _ he))
theorem putL_mem (k : ByteArray) (v : Int) : ∀ (m : Marks) (e : ByteArray × Int), e ∈ Mp.putL k v m → e.2 = v ∨ e ∈ m
  | [], e, h => by simp [Mp.putL] at h; exact .inl (by rw [h])
  | (a, u) :: r, e, h => by
    simp only [Mp.putL] at h
    split at h
    · rcases List.mem_cons.1 h with rfl | h
      · exact .inl rfl
      · exact .inr (List.mem_cons_of_mem _ h)
    · rcases List.mem_cons.1 h with rfl | h
      · exact .inr List.mem_cons_self
      · rcases putL_mem k v r e h with h | h
        · exact .inl h
        · exact .inr (List.mem_cons_of_mem _ h)
theorem lookR_marks : ∀ (l : List (Int × S28)) (i : Nat) (m : Marks), (∀ p ∈ l, 0 ≤ p.1 ∧ p.1 ≤ 1099511627776) → (∀ e ∈ m, 0 ≤ e.2 ∧ e.2 ≤ 1099511627776) → ∀ e ∈ (lookR l i m).2.2, 0 ≤ e.2 ∧ e.2 ≤ 1099511627776
  | [], _, m, _, hm => hm
  | p :: r, i, m, hl, hm => by
    simp only [lookR]
    split
    · refine lookR_marks r (i + 1) _ (fun q hq => hl q (List.mem_cons_of_mem _ hq)) (fun e he => ?_)
      unfold stepM at he
      split at he
      · exact hm e he
      · rcases putL_mem _ _ _ _ he with h | h
        · rw [h]; exact hl p List.mem_cons_self
        · exact hm e h
    · exact hm
/-- A program's words; the line with an error; the error. -/
def asmPut (l : List S28) : List Int × Int × Int :=
  if (lookR (placedL l 0) 0 []).2.1 ≠ 0 then ([], (lookR (placedL l 0) 0 []).1, (lookR (placedL l 0) 0 []).2.1)
  else if (putR (lookR (placedL l 0) 0 []).2.2 (placedL l 0) 0).2 ≠ 0 then ([], (putR (lookR (placedL l 0) 0 []).2.2 (placedL l 0) 0).1, (putR (lookR (placedL l 0) 0 []).2.2 (placedL l 0) 0).2)
  else (outL (lookR (placedL l 0) 0 []).2.2 (placedL l 0), 0, 0)
theorem wf_placed {l : List S28} (h : ∀ x ∈ l, wfX x) (hl : l.length ≤ 1099511627776) : ∀ p ∈ placedL l 0, wfP p := fun p hp => by
  obtain ⟨h1, h2, h3⟩ := mem_placed hp
  exact ⟨⟨by omega, by omega⟩, h _ h1⟩
set_option maxRecDepth 100000 in
set_option maxHeartbeats 8000000 in
theorem Put_any (A : Option Addr) (c : Nat) (l : List S28) (w : World) (hr : Kd.C k28 w A l.length l) (hwf : ∀ x ∈ l, wfX x) (hl : l.length ≤ 1099511627776) :
    Calls Tryd.prog 7 #[.slice A l.length c] w fun e w' => ∃ v0_ : Value, e = .returned (.tuple #[v0_, .int .i64 (asmPut l).2.1, .int .i64 (asmPut l).2.2]) ∧ RW w.heap.size w' v0_ (asmPut l).1 ∧ Below w.heap.size w w' := by
  have hmm := @run_makeMap Tryd.prog
  have hlp := wf_placed hwf hl
  obtain ⟨W1, hW1⟩ : ∃ W1, W1 = (w.alloc (.map #[] 0)).alloc (.cells #[.slice A l.length c, .map (some w.heap.size), .slice none 0 0] 46) := ⟨_, rfl⟩
  have hB1 : Below w.heap.size w W1 := by rw [hW1]; exact below_alloc (below_alloc (Below.refl _ _) _) _
  have hp1 : W1.heap[w.heap.size + 1]? = some (.cells #[.slice A l.length c, .map (some w.heap.size), .slice none 0 0] 46 (0, 0)) := by rw [hW1]; have := blk_new (w.alloc (.map #[] 0)) (.cells #[.slice A l.length c, .map (some w.heap.size), .slice none 0 0] 46); rwa [World.size_alloc] at this
  have hM1 : Mp.Is Mp.encS Mp.encN W1 w.heap.size ([] : Marks) := by rw [hW1]; exact (Mp.Is.mk_new w).below (below_alloc (Below.refl _ _) _)
  have hlook := look_any w.heap.size (w.heap.size + 1) w.heap.size A c l (.slice none 0 0) w W1 hr rfl hB1 hlp hl hp1 hM1 (by omega) (Nat.le_refl _)
  have hmk := lookR_marks (placedL l 0) 0 [] (fun p hp => (hlp p hp).1) (fun e he => by cases he)
  have hdef : asmPut l = (if (lookR (placedL l 0) 0 []).2.1 ≠ 0 then ([], (lookR (placedL l 0) 0 []).1, (lookR (placedL l 0) 0 []).2.1)
    else if (putR (lookR (placedL l 0) 0 []).2.2 (placedL l 0) 0).2 ≠ 0 then ([], (putR (lookR (placedL l 0) 0 []).2.2 (placedL l 0) 0).1, (putR (lookR (placedL l 0) 0 []).2.2 (placedL l 0) 0).2)
    else (outL (lookR (placedL l 0) 0 []).2.2 (placedL l 0), 0, 0)) := rfl
  have hput := fun W hb hp hM => put_any w.heap.size (w.heap.size + 1) w.heap.size A c l (lookR (placedL l 0) 0 []).2.2 w W hr rfl hb hlp hl hp hM (by omega) (Nat.le_refl _) (fun k => getL_bd k _ hmk)
  generalize (lookR (placedL l 0) 0 []).1 = li at *
  generalize (lookR (placedL l 0) 0 []).2.1 = le at *
  generalize (lookR (placedL l 0) 0 []).2.2 = mk at *
  generalize outL mk (placedL l 0) = ws at *
  generalize (putR mk (placedL l 0) 0).1 = pi at *
  generalize (putR mk (placedL l 0) 0).2 = pe at *
  have HD := Aside0.mk hdef
  have HW1 := Aside0.mk hW1
  have HB1 := Aside0.mk hB1
  have HPUT := Aside0.mk hput
  have HLOOK := Aside0.mk hlook
  clear hdef hW1 hB1 hput hlook hp1 hM1 hmk hlp hwf hr
  go_enter Tryd.func7, Tryd.ntmps7
  go_wp2_with fail
  rw [← HW1.out]
  go_at_call 13
  refine HLOOK.out.mono ?_
  rintro e_ w2 ⟨rfl, hb2, hs2, hp2, hM2⟩
  have hB2 : Below w.heap.size w w2 := HB1.out.trans hb2
  by_cases hle : le = 0
  · have hle2 : (le == 0) = true := by rw [hle]; rfl
    have HLE := Aside0.mk hle
    clear hle
    go_wp2_with fail
    go_at_call 14
    refine (HPUT.out w2 hB2 hp2 hM2).mono ?_
    rintro e_ w3 ⟨rfl, hb3, hs3, v, hp3, hr3⟩
    have hB3 : Below w.heap.size w w3 := hB2.trans hb3
    by_cases hpe : pe = 0
    · have hpe2 : (pe == 0) = true := by rw [hpe]; rfl
      have hv := hr3 hpe
      have HPE := Aside0.mk hpe
      clear hpe hr3
      obtain ⟨A3, c3, rfl⟩ := Kd.R_slice hv
      have hc3 : w3.cell? ⟨w.heap.size + 1, 2, none⟩ = some (.slice A3 ws.length c3) := (blk_cell hp3 2).trans rfl
      have HV := Aside0.mk hv
      have HB3 := Aside0.mk hB3
      clear hv hB3 hb3 hB2 hb2 hM2 hp2 hp3
      go_wp2
      refine bodyPost_ret (v := .tuple #[.slice A3 ws.length c3, .int .i64 0, .int .i64 0]) (by simp [results, Tryd.results7, go_sem]) rfl ?_
      have hd : asmPut l = (ws, 0, 0) := by rw [HD.out, HLE.out, HPE.out]; rfl
      rw [hd]
      exact ⟨_, rfl, HV.out, HB3.out⟩
    · have hpe2 : (pe == 0) = false := by simpa using hpe
      have HPE := Aside0.mk hpe
      have HB3 := Aside0.mk hB3
      clear hpe hr3 hB3 hb3 hB2 hb2 hM2 hp2 hp3
      go_wp2
      refine bodyPost_ret (v := .tuple #[.slice none 0 0, .int .i64 pi, .int .i64 pe]) (by simp [results, Tryd.results7, go_sem]) rfl ?_
      have hd : asmPut l = ([], pi, pe) := by rw [HD.out, HLE.out, if_neg (by simp), if_pos HPE.out]
      rw [hd]
      exact ⟨_, rfl, Kd.R_nil _ _ _ _ _, HB3.out⟩
  · have hle2 : (le == 0) = false := by simpa using hle
    have HLE := Aside0.mk hle
    have HB2 := Aside0.mk hB2
    clear hle hB2 hb2 hM2 hp2
    go_wp2
    refine bodyPost_ret (v := .tuple #[.slice none 0 0, .int .i64 li, .int .i64 le]) (by simp [results, Tryd.results7, go_sem]) rfl ?_
    have hd : asmPut l = ([], li, le) := by rw [HD.out, if_pos HLE.out]
    rw [hd]
    exact ⟨_, rfl, Kd.R_nil _ _ _ _ _, HB2.out⟩
def wfXb (x : S28) : Bool := decide (-2147483648 ≤ x.f1.f4) && decide (x.f1.f4 ≤ 2147483647) && decide (x.f0.size ≤ 9223372036854775807) && decide (x.f2.size ≤ 9223372036854775807)
theorem wfXb_iff (x : S28) : wfXb x = true ↔ wfX x := by
  unfold wfXb wfX
  simp only [Bool.and_eq_true, decide_eq_true_eq]
  constructor
  · rintro ⟨⟨⟨h1, h2⟩, h3⟩, h4⟩; exact ⟨⟨h1, h2⟩, h3, h4⟩
  · rintro ⟨⟨h1, h2⟩, h3, h4⟩; exact ⟨⟨⟨h1, h2⟩, h3⟩, h4⟩
def wfLb (l : List S28) : Bool := l.all wfXb && decide (l.length ≤ 1099511627776)
theorem wfLb_iff (l : List S28) : wfLb l = true ↔ (∀ x ∈ l, wfX x) ∧ l.length ≤ 1099511627776 := by
  unfold wfLb
  rw [Bool.and_eq_true, List.all_eq_true, decide_eq_true_eq]
  constructor
  · rintro ⟨h1, h2⟩; exact ⟨fun x hx => (wfXb_iff x).1 (h1 x hx), h2⟩
  · rintro ⟨h1, h2⟩; exact ⟨fun x hx => (wfXb_iff x).2 (h1 x hx), h2⟩
def asm_Put.f (a0 : List S28) : Option (List Int × Int × Int) := if wfLb a0 = true then some (asmPut a0) else none
theorem asm_Put.calls (A0 : Option Addr) (c0 : Nat) (l0 : List S28) (r1 : List Int) (r2 r3 : Int) (w : World) (hr0 : Kd.C k28 w A0 l0.length l0) (hc0 : l0.length ≤ c0) (h : asm_Put.f l0 = some (r1, r2, r3)) :
    Calls Tryd.prog 7 #[.slice A0 l0.length c0] w fun e w' => ∃ v0_ : Value, e = .returned (.tuple #[v0_, .int .i64 r2, .int .i64 r3]) ∧ Kd.R (Kd.int .u64) 40 w' w.heap.size (fun _ => True) v0_ r1 ∧ Below w.heap.size w w' := by
  unfold asm_Put.f at h
  split at h
  · rename_i hb
    obtain ⟨h1, h2⟩ := (wfLb_iff l0).1 hb
    have := Put_any A0 c0 l0 w hr0 h1 h2
    rw [Option.some.inj h] at this
    exact this
  · cases h
end Go.Proofs.YtbelnkdbghggmaaDoor.X
