/- Contract of codec.pair: the pair of a text. -/
import Derived.Test.YtjcjfeoipcbdoaaDoorCf
import Derived.Lib.SmallJoins
import Derived.Lib.AtoiErrMem
import Derived.Lib.ParseIntBCases
namespace Go.Proofs.YtjcjfeoipcbdoaaDoor.X
open Go.RowKit Go.Proofs.YtjcjfeoipcbdoaaDoorW.PrintWords Go.Proofs.YtjcjfeoipcbdoaaDoorW.PrintLast Go.Proofs.YtjcjfeoipcbdoaaDoorW.PrintMore
set_option linter.unusedVariables false
set_option linter.unusedSimpArgs false
/-- The number of digits; whether it is one. -/
def numR (d : List UInt8) : Nat × Bool := match Lib.parseUintB 64 d with
  | .ok u => (u, true)
  | .syntax => (0, false)
  | .range => (18446744073709551615, false)
/-- The error beside it. -/
def IsErr (b : Bool) (v : Value) : Prop := (b = true ∧ v = .nilIface) ∨ (b = false ∧ ∃ p, v = .iface 107 p)
theorem numR_lt (d : List UInt8) : (numR d).1 < 18446744073709551616 := by
  unfold numR
  cases h : Lib.parseUintB 64 d with
  | ok u => have := Lib.parseUintB_le h; simpa using (by omega : u < 18446744073709551616)
  | «syntax» => decide
  | range => decide
theorem PU_any (s : ByteArray) (hs : s.size ≤ 281474976710656) (w : World) (ht : Env w) :
    Calls Tryd.prog 47 #[.string s, .int .i64 10, .int .i64 64] w fun e w' => (∃ v, e = .returned (.tuple #[.int .u64 ((numR s.data.toList).1 : Nat), v]) ∧ IsErr (numR s.data.toList).2 v) ∧ Below w.heap.size w w' := by
  unfold numR
  cases h : Lib.parseUintB 64 s.data.toList with
  | ok u =>
    refine (Tryd.strconv_ParseUint_10_at64_ok s (by omega) u h w).mono ?_
    rintro e w' ⟨rfl, hw⟩
    refine ⟨⟨_, rfl, .inl ⟨rfl, rfl⟩⟩, ?_⟩
    rcases hw with rfl | rfl
    · exact Below.refl _ _
    · exact Lib.bytesWorld_below _ _ _
  | «syntax» =>
    obtain ⟨tp, p, hv⟩ := ht.syn
    refine (Tryd.strconv_ParseUint_10_at64_syntax_var s hs h tp p w hv).mono ?_
    rintro e w' ⟨N, rfl, _, _, hb⟩
    exact ⟨⟨_, rfl, .inr ⟨rfl, _, rfl⟩⟩, hb⟩
  | range =>
    obtain ⟨tp, p, hv⟩ := ht.rng
    refine (Tryd.strconv_ParseUint_10_at64_range_var s hs h tp p w hv).mono ?_
    rintro e w' ⟨N, rfl, _, _, hb⟩
    exact ⟨⟨_, rfl, .inr ⟨rfl, _, rfl⟩⟩, hb⟩
/-- Digits, and the sign. -/
def cutB (s sep : List UInt8) : ByteArray × ByteArray × Bool := (⟨(Lib.cut s sep).1.toArray⟩, ⟨(Lib.cut s sep).2.1.toArray⟩, (Lib.cut s sep).2.2)
theorem cutB_le (s : ByteArray) (sep : List UInt8) : (cutB s.data.toList sep).1.size ≤ s.size ∧ (cutB s.data.toList sep).2.1.size ≤ s.size := by
  have key : (Lib.cut s.data.toList sep).1.length ≤ s.data.toList.length ∧ (Lib.cut s.data.toList sep).2.1.length ≤ s.data.toList.length := by
    unfold Lib.cut
    split
    · exact ⟨by rw [List.length_take]; omega, by rw [List.length_drop]; omega⟩
    · exact ⟨Nat.le_refl _, Nat.zero_le _⟩
  exact key
theorem Cut_any (s : ByteArray) (c : UInt8) (w : World) (hs : s.size < 4294967281) (ht : Env w) :
    Calls Tryd.prog 46 #[.string s, .string ⟨#[c]⟩] w fun e w' => e = .returned (.tuple #[.string (cutB s.data.toList [c]).1, .string (cutB s.data.toList [c]).2.1, .bool (cutB s.data.toList [c]).2.2]) ∧ ∃ n, w' = w.drewN n := by
  obtain ⟨m, hm⟩ := ht.mlen
  exact Tryd.strings_Cut s ⟨#[c]⟩ m w hs hm
def pairQ (d g : ByteArray) (ok : Bool) : S47 × Bool := (⟨((numR d.data.toList).1 : Nat), (levR g).1⟩, ok && (numR d.data.toList).2 && ((levR g).2 == 0) && ((dgB (numR d.data.toList).1).toList == d.toList))
/-- The pair of a text; whether it is one. -/
def pairR (s : ByteArray) : S47 × Bool := pairQ (cutB s.data.toList [58]).1 (cutB s.data.toList [58]).2.1 (cutB s.data.toList [58]).2.2
set_option maxRecDepth 100000 in
set_option maxHeartbeats 4000000 in
theorem pair_any (s : ByteArray) (hs : s.size < 4294967281) (w : World) (ht : Env w) :
    Calls Tryd.prog 34 #[.string s] w fun e w' => e = .returned (.tuple #[.agg #[.int .u64 (pairR s).1.f0, .int .i64 (pairR s).1.f1], .bool (pairR s).2]) ∧ Below w.heap.size w w' := by
  have hc := Cut_any s 58 (w.alloc (.cells #[.int .u64 0, .int .i64 0] 47)) hs (env_mono ht (below_alloc (Below.refl _ _) _))
  have hle := (cutB_le s [58]).1
  unfold pairR
  generalize (cutB s.data.toList [58]).1 = d at *
  generalize (cutB s.data.toList [58]).2.1 = g at *
  generalize (cutB s.data.toList [58]).2.2 = ok at *
  have HC := Aside0.mk hc
  have HT := Aside0.mk ht
  clear hc ht
  cases ok <;> by_cases he : (levR g).2 = 0
  all_goals
    go_enter Tryd.func34, Tryd.ntmps34
    go_wp2_with (first
      | (go_at_call 46; (with_reducible refine HC.out.mono ?_); rintro e_ w1 ⟨rfl, n1, rfl⟩)
      | (go_at_call 47; (with_reducible refine (PU_any d (by omega) _ (env_mono HT.out (pw_below_drewN (below_alloc (Below.refl _ _) _) _))).mono ?_); rintro e_ w2 ⟨⟨v, rfl, hv⟩, hb2⟩; have hB2 := blk_below (blk_drewN (blk_new w (.cells #[.int .u64 0, .int .i64 0] 47)) n1) hb2; have hW2 := below_step (pw_below_drewN (below_alloc (Below.refl w.heap.size w) (.cells #[.int .u64 0, .int .i64 0] 47)) n1) hb2; rcases hv with ⟨hq, rfl⟩ | ⟨hq, p, rfl⟩)
      | (go_at_call 48; (with_reducible refine (level_Read_any g _ _ rfl).mono ?_); rintro e_ w3 ⟨rfl, ⟨⟨n3, rfl⟩⟩⟩; have hB3 := blk_drewN hB2 n3; have hW3 := pw_below_drewN hW2 n3; have hc0 := blk_cell hB3 0; have hc1 := blk_cell hB3 1; have hf0 := blk_frozen hB3 0; have hf1 := blk_frozen hB3 1; simp only [List.getElem?_toArray, List.getElem?_cons_zero, List.getElem?_cons_succ] at hc0 hc1)
      | (go_at_call 24; (with_reducible refine (FormatUint_any _ (numR_lt d.data.toList) _ (env_mono HT.out hW3)).mono ?_); rintro e_ w4 ⟨rfl, hb4⟩; have hB4 := blk_below hB3 hb4; have hW4 := below_step hW3 hb4; have hc40 := blk_cell hB4 0; have hc41 := blk_cell hB4 1; have hf40 := blk_frozen hB4 0; have hf41 := blk_frozen hB4 1; simp only [List.getElem?_toArray, List.getElem?_cons_zero, List.getElem?_cons_succ] at hc40 hc41))
    all_goals
      first
      | (have hE := blk_put (blk_put hB4 0 (.int .u64 ((numR d.data.toList).1 : Nat)) rfl) 1 (.int .i64 (levR g).1) rfl
         have hW5 := (hW4.setCell (p := ⟨w.heap.size, 0, none⟩) (Nat.le_refl _) (.int .u64 ((numR d.data.toList).1 : Nat))).setCell (p := ⟨w.heap.size, 1, none⟩) (Nat.le_refl _) (.int .i64 (levR g).1)
         have hd0 := blk_cell hE 0
         have hd1 := blk_cell hE 1
         simp at hd0 hd1
         simp [bodyPost, results, Tryd.results34, go_sem, hd0, hd1, pairQ, hq, he, hW5]
         done)
      | (have hE := blk_put (blk_put hB3 0 (.int .u64 ((numR d.data.toList).1 : Nat)) rfl) 1 (.int .i64 (levR g).1) rfl
         have hW5 := (hW3.setCell (p := ⟨w.heap.size, 0, none⟩) (Nat.le_refl _) (.int .u64 ((numR d.data.toList).1 : Nat))).setCell (p := ⟨w.heap.size, 1, none⟩) (Nat.le_refl _) (.int .i64 (levR g).1)
         have hd0 := blk_cell hE 0
         have hd1 := blk_cell hE 1
         simp at hd0 hd1
         simp [bodyPost, results, Tryd.results34, go_sem, hd0, hd1, pairQ, hq, he, hW5]
         done)
      | fail
end Go.Proofs.YtjcjfeoipcbdoaaDoor.X
