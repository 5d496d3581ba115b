/- The plain law of AsmGoes. -/
import Derived.Test.YtbelnkdbghggmaaDoorPuAsmJoins
import Derived.Test.YtbelnkdbghggmaaDoorPuB
import Derived.Test.YtbelnkdbghggmaaDoorXx7
namespace Go.Proofs.YtbelnkdbghggmaaDoor.X
open Go.RowKit Go.Proofs.YtbelnkdbghggmaaDoorW.PrintWords
set_option linter.unusedVariables false
set_option linter.unusedSimpArgs false
theorem fit_imm {op a b c e : Int} (n : Int) (h : fitB op a b c e = true) (hu : uses op 3 = true) : fitB op a b c n = true := by
  unfold fitB at h ⊢
  rw [Bool.and_eq_true, fitP_iff] at h
  rw [Bool.and_eq_true, fitP_iff]
  refine ⟨h.1, ?_⟩
  obtain ⟨_, h1⟩ := h
  have b3 : ∀ z, bad op a b c z 3 = false := fun z => by simp [bad, hu, letter]
  have b0 : bad op a b c n 0 = bad op a b c e 0 := rfl
  have b1 : bad op a b c n 1 = bad op a b c e 1 := rfl
  have b2 : bad op a b c n 2 = bad op a b c e 2 := rfl
  rw [b3] at h1 ⊢
  rw [b0, b1, b2]
  exact h1
theorem uses_jump {op : Int} (h : op = 1 ∨ jumpsB op = true) : uses op 3 = true := by
  have k : ∀ n : Fin 26, (n.1 = 1 ∨ n.1 = 18 ∨ n.1 = 19 ∨ n.1 = 20 ∨ n.1 = 21) → uses (n.1 : Int) 3 = true := by decide +kernel
  unfold jumpsB at h
  simp only [Bool.or_eq_true, decide_eq_true_eq] at h
  have : (0 ≤ op ∧ op < 26) ∧ (op.toNat = 1 ∨ op.toNat = 18 ∨ op.toNat = 19 ∨ op.toNat = 20 ∨ op.toNat = 21) := by omega
  have := k ⟨op.toNat, by omega⟩ this.2
  simpa [Int.toNat_of_nonneg (show 0 ≤ op by omega)] using this
theorem enc_dec (K : Nat) (hK : 10 ≤ K) (op a b c e : Int) (h : fitB op a b c e = true) (he : -2147483648 ≤ e ∧ e ≤ 2147483647) : curtilageref08_Decode.f K (encV op a b c e) = some (op, a, b, c, e, true) := by
  have e1 : encV op a b c e = encS op a b c e := by
    unfold encV
    rw [Encode_val _ _ _ _ _ he, if_pos h]; rfl
  obtain ⟨hx, d1, d2, d3, d4, d5⟩ := dec_enc op a b c e h he
  rw [e1, rDecode K hK _ hx, Decode_val _ hx, d1, d2, d3, d4, d5, if_pos ⟨h, rfl⟩]
theorem okL_app : ∀ (l : List (Int × S28)) (m m' : Marks), okL l m = some m' → ∃ r, m' = m ++ r
  | [], m, m', h => by cases h; exact ⟨[], by simp⟩
  | p :: r, m, m', h => by
    simp only [okL] at h
    split at h
    · rename_i h0
      obtain ⟨_, _, hb⟩ := (stepE_zero m p).1 h0
      obtain ⟨q, rfl⟩ := okL_app r _ _ h
      unfold stepM
      by_cases e : p.2.f0.toList = ([] : List UInt8)
      · rw [if_pos e]; exact ⟨q, rfl⟩
      · rw [if_neg e, putL_new _ _ _ (hb e)]
        exact ⟨[(p.2.f0, p.1)] ++ q, by simp⟩
    · cases h
theorem okL_keep {l : List (Int × S28)} {m m' : Marks} (h : okL l m = some m') {k : ByteArray} (hk : Mp.hasL k m = true) : Mp.hasL k m' = true ∧ Mp.getL k 0 m' = Mp.getL k 0 m := by
  obtain ⟨r, rfl⟩ := okL_app l m m' h
  exact ⟨by rw [hasL_append, hk]; rfl, by rw [getL_append, if_pos hk]⟩
theorem step_new {m : Marks} {p : Int × S28} (h0 : stepE m p = 0) (e : p.2.f0.toList ≠ []) : Mp.hasL p.2.f0 (stepM m p) = true ∧ Mp.getL p.2.f0 0 (stepM m p) = p.1 := by
  obtain ⟨_, _, hb⟩ := (stepE_zero m p).1 h0
  unfold stepM
  rw [if_neg e, putL_new _ _ _ (hb e), hasL_append, getL_append, hb e]
  simp [Mp.hasL, Mp.getL]
theorem okL_mem : ∀ (l : List (Int × S28)) (m m' : Marks), okL l m = some m' → ∀ p ∈ l, p.2.f0.toList ≠ [] → Mp.hasL p.2.f0 m' = true ∧ Mp.getL p.2.f0 0 m' = p.1
  | [], m, m', h, p, hp, e => by cases hp
  | q :: r, m, m', h, p, hp, e => by
    simp only [okL] at h
    split at h
    · rename_i h0
      rcases List.mem_cons.1 hp with rfl | hp
      · obtain ⟨h1, h2⟩ := step_new h0 e
        obtain ⟨h3, h4⟩ := okL_keep h h1
        exact ⟨h3, h4.trans h2⟩
      · exact okL_mem r _ _ h p hp e
    · cases h
theorem find_okL (k : ByteArray) (hk : k.toList ≠ []) : ∀ (l : List (Int × S28)) (m m' : Marks), okL l m = some m' → Mp.hasL k m = false →
    (match l.find? (hitF k) with | some p => ((p.1, true) : Int × Bool) | none => (0, false)) = (Mp.getL k 0 m', Mp.hasL k m')
  | [], m, m', h, hm => by
    cases h
    have := getL_append k m []
    rw [hm] at this
    simp only [List.append_nil] at this
    simp [hm, this, Mp.getL]
  | p :: r, m, m', h, hm => by
    simp only [okL] at h
    split at h
    · rename_i h0
      obtain ⟨_, _, hb⟩ := (stepE_zero m p).1 h0
      by_cases e : p.2.f0.toList = ([] : List UInt8)
      · have hh : hitF k p = false := by simp [hitF, e]
        rw [List.find?_cons_of_neg (by rw [hh]; decide)]
        refine find_okL k hk r _ _ h ?_
        unfold stepM
        rw [if_pos e]; exact hm
      · by_cases ek : p.2.f0 = k
        · have hh : hitF k p = true := by
            unfold hitF
            rw [ek]
            simp [hk]
          rw [List.find?_cons_of_pos hh]
          obtain ⟨h1, h2⟩ := step_new h0 e
          obtain ⟨h3, h4⟩ := okL_keep h h1
          rw [ek] at h2 h3 h4
          show (p.1, true) = _
          rw [h4, h3, h2]
        · have hh : hitF k p = false := by
            unfold hitF
            have : ¬ p.2.f0.toList = k.toList := fun x => ek (bytes_inj x)
            simp [this]
          rw [List.find?_cons_of_neg (by rw [hh]; decide)]
          refine find_okL k hk r _ _ h ?_
          unfold stepM
          rw [if_neg e, putL_new _ _ _ (hb e), hasL_append, hm]
          simp only [Mp.hasL, Bool.false_or]
          rw [if_neg (fun x => ek x.symm)]
    · cases h
theorem find_marks (l : List S28) (M : Marks) (h : okL (placedL l 0) [] = some M) (k : ByteArray) (hk : k.toList ≠ []) : findR l k = (Mp.getL k 0 M, Mp.hasL k M) := by
  unfold findR
  exact find_okL k hk _ _ _ h rfl
theorem outL_cnt (M : Marks) : ∀ (l : List S28) (k : Nat), (outL M (placedL l k)).length = cnt l
  | [], _ => rfl
  | x :: r, k => by
    have hm := mark_iff x.f0
    have ih := outL_cnt M r
    simp only [outL] at ih
    simp only [placedL, outL, List.flatMap_cons, List.length_append, cnt]
    rw [ih]
    congr 1
    unfold wordsP isMark
    by_cases e : x.f0.toList = ([] : List UInt8)
    · have := hm.1 e
      simp [e, this]
    · have : 0 < x.f0.size := Nat.pos_of_ne_zero fun h => e (hm.2 h)
      simp [e, this]
theorem placed_at (l : List S28) (i : Nat) (h : i < l.length) : placedL l 0 = placedL (l.take i) 0 ++ ((cnt (l.take i) : Int), l[i]) :: placedL (l.drop (i + 1)) (cnt (l.take (i + 1))) := by
  have e : l = l.take i ++ l[i] :: l.drop (i + 1) := by rw [← List.drop_eq_getElem_cons h, List.take_append_drop]
  have e2 : l.take (i + 1) = l.take i ++ [l[i]] := List.take_succ_eq_append_getElem h
  rw [e2, cnt_append]
  generalize hx : l[i] = x at *
  generalize l.take i = a at *
  generalize l.drop (i + 1) = b at *
  subst e
  rw [placedL_append]
  simp only [placedL, Nat.zero_add, cnt]
  congr 2
  split <;> rfl
theorem word_at (M : Marks) (l : List S28) (i : Nat) (h : i < l.length) (e : l[i].f0.toList = []) : (outL M (placedL l 0)).getD (cnt (l.take i)) 0 = encV l[i].f1.f0 l[i].f1.f1 l[i].f1.f2 l[i].f1.f3 (immP M ((cnt (l.take i) : Int), l[i])) := by
  rw [placed_at l i h]
  have h1 := outL_cnt M (l.take i) 0
  simp only [outL] at h1
  simp only [outL, List.flatMap_append, List.flatMap_cons]
  rw [List.getD_eq_getElem?_getD, List.getElem?_append_right (by rw [h1]; exact Nat.le_refl _), h1, Nat.sub_self]
  unfold wordsP
  rw [if_pos e]
  rfl
theorem fields_same (op a b c e : Int) : (!(op == op) || (!(a == a) || (!(b == b) || (!(c == c) || !(e == e))))) = false := by simp
theorem fields_same4 (op a b c : Int) : (!(op == op) || (!(a == a) || (!(b == b) || !(c == c)))) = false := by simp
theorem G_l0 (l : List S28) (hl : l.length ≤ 60) (hw : ∀ x ∈ l, wfX x) (M : Marks) (ho : okL (placedL l 0) [] = some M) (hn : ∀ p ∈ placedL l 0, numE M p = 0) : ∀ (d i : Nat), i + d = l.length →
    ∃ k, 10 ≤ k ∧ curtilagelaw10_AsmGoes.l0 k l (outL M (placedL l 0)) (cnt (l.take i) : Int) l (l.length : Int) (i : Int) = some true
  | 0, i, e => ⟨11, by decide, by
      simp only [curtilagelaw10_AsmGoes.l0]
      obtain rfl : i = l.length := by omega
      rw [if_neg (by omega), outL_cnt, List.take_length, if_pos rfl, awake_val]; rfl⟩
  | d + 1, i, e => by
    obtain ⟨k, k10, hk⟩ := G_l0 l hl hw M ho hn d (i + 1) (by omega)
    have hi : i < l.length := by omega
    have hra := rd_at l i hi
    have hcs := cnt_succ l i hi
    rw [hra] at hcs
    have hp : ((cnt (l.take i) : Int), l[i]) ∈ placedL l 0 := by rw [placed_at l i hi]; simp
    have hc : cnt (l.take i) ≤ 60 := by have := cnt_le (l.take i); rw [List.length_take] at this; omega
    have hnp := hn _ hp
    have hgd := okL_good _ _ _ ho _ hp
    have hwx := hw _ (List.getElem_mem hi)
    have hwa := word_at M l i hi
    have hmk := mark_iff l[i].f0
    have hcl : cnt (l.take (i + 1)) ≤ cnt l := by
      have := cnt_append (l.take (i + 1)) (l.drop (i + 1))
      rw [List.take_append_drop] at this
      omega
    have hlen := outL_cnt M l 0
    generalize hW : outL M (placedL l 0) = ws at *
    have hfind := find_marks l M ho
    have hmem := okL_mem _ _ _ ho _ hp
    have hbd : ∀ k, Mp.hasL k M = true → 0 ≤ Mp.getL k 0 M ∧ Mp.getL k 0 M ≤ 60 := fun k hk => by
      rcases okL_marks _ _ _ ho k hk with h | ⟨q, hq, rfl, h2⟩
      · simp [Mp.hasL] at h
      · have h3 := (okL_mem _ _ _ ho q hq h2).2
        have h4 := (placed_mem2 hq).2
        rw [h3]; omega
    generalize hx : l[i] = x at *
    by_cases e0 : x.f0.toList = ([] : List UInt8)
    · -- an instruction
      have hs : isMark x = false := by unfold isMark; rw [hmk.1 e0]; rfl
      rw [hs] at hcs
      simp only [Bool.false_eq_true, if_false] at hcs
      have hlt : cnt (l.take i) < ws.length := by omega
      have hrd : rd ws (cnt (l.take i) : Int) = encV x.f1.f0 x.f1.f1 x.f1.f2 x.f1.f3 (immP M ((cnt (l.take i) : Int), x)) := by
        rw [← hwa e0]; simp [rd]
      rw [goodB, if_pos e0, Bool.and_eq_true] at hgd
      obtain ⟨hfit, hto⟩ := hgd
      rw [hcs] at hk
      by_cases e2 : x.f2.toList = ([] : List UInt8)
      · have him : immP M ((cnt (l.take i) : Int), x) = x.f1.f4 := by unfold immP; rw [if_pos e2]
        refine ⟨k + 1, by omega, ?_⟩
        simp only [curtilagelaw10_AsmGoes.l0]
        rw [hra, if_pos (by omega), if_pos (by omega), if_pos (by omega), if_pos e0, if_neg (by omega), if_pos (by omega), if_pos (by omega), hrd, him, enc_dec k k10 _ _ _ _ _ hfit hwx.1]
        simp only [Option.bind_some, if_true]
        rw [if_pos e2, fields_same, if_neg (by decide), w64 _ (by omega), w64 _ (by omega), show (i : Int) + 1 = ((i + 1 : Nat) : Int) by omega, show (cnt (l.take i) : Int) + 1 = ((cnt (l.take i) + 1 : Nat) : Int) by omega]
        exact hk
      · -- with a mark to go to
        rw [numE, if_pos e0, if_neg e2] at hnp
        have hnp' : (numR M (cnt (l.take i) : Int) x).2 = 0 := hnp
        have hhas : Mp.hasL x.f2 M = true := by
          by_cases hh : Mp.hasL x.f2 M = true
          · exact hh
          · unfold numR at hnp'; rw [if_neg hh] at hnp'; exact absurd hnp' (by decide)
        have hnr : ¬ (numN M (cnt (l.take i) : Int) x < -2147483648 ∨ 2147483647 < numN M (cnt (l.take i) : Int) x) := fun hh => by
          unfold numR at hnp'; rw [if_pos hhas, if_pos hh] at hnp'; exact absurd hnp' (by decide)
        have him : immP M ((cnt (l.take i) : Int), x) = numN M (cnt (l.take i) : Int) x := by
          unfold immP numR; rw [if_neg e2, if_pos hhas, if_neg hnr]
        have hb := hbd _ hhas
        have hff := hfind x.f2 e2
        have hjj : x.f1.f0 = 1 ∨ jumpsB x.f1.f0 = true := by
          simp only [Bool.or_eq_true, Bool.and_eq_true, decide_eq_true_eq] at hto
          rcases hto with h | ⟨_, h | h⟩
          · exact absurd h e2
          · exact .inl h
          · exact .inr h.1
        have hfit2 := fit_imm (numN M (cnt (l.take i) : Int) x) hfit (uses_jump hjj)
        have hnb : -2147483648 ≤ numN M (cnt (l.take i) : Int) x ∧ numN M (cnt (l.take i) : Int) x ≤ 2147483647 := by omega
        refine ⟨k + 3, by omega, ?_⟩
        simp only [curtilagelaw10_AsmGoes.l0]
        rw [hra, if_pos (by omega), if_pos (by omega), if_pos (by omega), if_pos e0, if_neg (by omega), if_pos (by omega), if_pos (by omega), hrd, him, enc_dec (k + 2) (by omega) _ _ _ _ _ hfit2 hnb]
        simp only [Option.bind_some, if_true]
        rw [if_neg e2, show asm_Find.f l x.f2 = some (findR l x.f2) from rfl, hff]
        simp only [Option.bind_some]
        have fin : ∀ z : Int, z = Mp.getL x.f2 0 M → curtilagelaw10_AsmGoes.j1 (k + 2) l ws (cnt (l.take i) : Int) (Mp.getL x.f2 0 M) (Mp.hasL x.f2 M) z l (l.length : Int) (i : Int) x.f0 x.f1.f0 x.f1.f1 x.f1.f2 x.f1.f3 x.f1.f4 x.f2 x.f1.f0 x.f1.f1 x.f1.f2 x.f1.f3 (numN M (cnt (l.take i) : Int) x) = some true := fun z hz => by
          simp only [curtilagelaw10_AsmGoes.j1, curtilagelaw10_AsmGoes.j2]
          rw [if_pos hhas, hz, if_neg (by simp), fields_same4, if_neg (by decide), w64 _ (by omega), w64 _ (by omega), show (i : Int) + 1 = ((i + 1 : Nat) : Int) by omega, show (cnt (l.take i) : Int) + 1 = ((cnt (l.take i) + 1 : Nat) : Int) by omega]
          exact hk
        by_cases e1 : x.f1.f0 = 1
        · rw [if_pos e1]
          refine fin _ ?_
          have hx4 := hwx.1
          unfold numN at hnb ⊢
          rw [if_pos e1] at hnb ⊢
          rw [w64 (Mp.getL x.f2 0 M + x.f1.f4) (by omega), w64 x.f1.f4 (by omega), w64 _ (by omega)]
          omega
        · rw [if_neg e1]
          refine fin _ ?_
          unfold numN at hnb ⊢
          rw [if_neg e1] at hnb ⊢
          rw [w64 ((cnt (l.take i) : Int) + 1) (by omega), w64 (Mp.getL x.f2 0 M - (cnt (l.take i) : Int) - 1) (by omega), w64 _ (by omega)]
          omega
    · -- a mark
      have hs : isMark x = true := by unfold isMark; exact decide_eq_true (Nat.pos_of_ne_zero fun h => e0 (hmk.2 h))
      rw [hs] at hcs
      simp only [if_true, Nat.add_zero] at hcs
      rw [hcs] at hk
      obtain ⟨h1, h2⟩ := hmem e0
      have hff := hfind x.f0 e0
      refine ⟨k + 1, by omega, ?_⟩
      simp only [curtilagelaw10_AsmGoes.l0]
      rw [hra, if_pos (by omega), if_pos (by omega), if_pos (by omega), if_neg e0, show asm_Find.f l x.f0 = some (findR l x.f0) from rfl, hff]
      simp only [Option.bind_some]
      have h2' : Mp.getL x.f0 0 M = (cnt (l.take i) : Int) := h2
      have h1' : Mp.hasL x.f0 M = true := h1
      rw [if_pos h1', if_pos h2', w64 _ (by omega), show (i : Int) + 1 = ((i + 1 : Nat) : Int) by omega]
      exact hk
theorem AsmGoes_val (l : List S28) (wl : ∀ x ∈ l, wfX x) : ∃ k, curtilagelaw10_AsmGoes.f k l = some true := by
  obtain ⟨k1, b1, h1, f1⟩ := few_ex l
  by_cases hb1 : b1 = true
  · subst hb1
    have hl := f1 rfl
    have hp := put_val l (wfLb_few wl hl)
    by_cases e : (asmPut l).2.2 = 0
    · obtain ⟨M, ho, hn, r⟩ := asmPut_ok l e
      obtain ⟨k, _, hk⟩ := G_l0 l hl wl M ho hn l.length 0 (by omega)
      refine ⟨k1 + k, ?_⟩
      unfold curtilagelaw10_AsmGoes.f
      rw [at_rounds (curtilagelaw10_few.mono l) (by omega : k1 ≤ k1 + k) h1, hp]
      simp only [Option.bind_some, if_true]
      rw [if_pos e, r]
      exact at_rounds (g := fun k => curtilagelaw10_AsmGoes.l0 k l (outL M (placedL l 0)) 0 l (l.length : Int) 0) (fun k => (curtilagelaw10_AsmGoes.mono_l k).1 _ _ _ _ _ _) (by omega : k ≤ k1 + k) hk
    · refine ⟨k1, ?_⟩
      unfold curtilagelaw10_AsmGoes.f
      rw [h1, hp]
      simp only [Option.bind_some, if_true]
      rw [if_neg e, asmPut_err l e, awake_val]
      rfl
  · refine ⟨k1, ?_⟩
    unfold curtilagelaw10_AsmGoes.f
    rw [h1, awake_val]
    simp only [Option.bind_some]
    rw [if_neg hb1]
end Go.Proofs.YtbelnkdbghggmaaDoor.X
