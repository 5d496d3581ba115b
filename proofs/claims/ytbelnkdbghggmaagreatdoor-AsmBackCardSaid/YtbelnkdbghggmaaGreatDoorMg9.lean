/- Texts of this claim that stand one behind another, merged. -/
import Derived.Test.YtbelnkdbghggmaaGreatDoorMg8
import Derived.Test.YtbelnkdbghggmaaGreatDoorMg6
import Derived.Test.YtbelnkdbghggmaaGreatDoorMg2
import Derived.Test.YtbelnkdbghggmaaGreatDoorMg7
namespace Go.Proofs.YtbelnkdbghggmaaGreatDoor.X
open Go.RowKit Go.Proofs.YtbelnkdbghggmaaGreatDoorW.PrintWords
set_option linter.unusedVariables false
set_option linter.unusedSimpArgs false
/-- What a reader answers, as a line. -/
def lineOf (r : RS) : S40 := ⟨r.1, ⟨r.2.1, r.2.2.1, r.2.2.2.1, r.2.2.2.2.1, r.2.2.2.2.2.1⟩, r.2.2.2.2.2.2.1⟩
def okOf (r : RS) : Bool := r.2.2.2.2.2.2.2
def tellR (x : S40) (b : Bool) : RS := (x.f0, x.f1.f0, x.f1.f1, x.f1.f2, x.f1.f3, x.f1.f4, x.f2, b)
def Sound (t : ByteArray) (r : RS) : Prop := okOf r = true → wfX (lineOf r) ∧ goodB (lineOf r) = true ∧ lineT (lineOf r) = t.data.toList
def Post (t : ByteArray) (r : RS) : Prop := Sound t r ∧ ∀ x : S40, wfX x → goodB x = true → lineT x = t.data.toList → r = tellR x true
theorem lineOf_tell (x : S40) (b : Bool) : lineOf (tellR x b) = x := rfl
theorem line_mark {x : S40} (h0 : ¬ x.f0.toList = []) : lineT x = x.f0.data.toList ++ [58] := by unfold lineT; rw [if_neg h0]
theorem toList_iff (a : ByteArray) : a.toList = [] ↔ a.data.toList = [] := by rw [ByteArray.toList_eq]
theorem empty_list : (⟨#[]⟩ : ByteArray).toList = [] := by rw [ByteArray.toList_eq]
/-- A mark's line. -/
def markL (m : ByteArray) : S40 := ⟨m, ⟨0, 0, 0, 0, 0⟩, ⟨#[]⟩⟩
theorem mark_good (m : ByteArray) (hm : ¬ m.toList = []) : goodB (markL m) = namedB m := by
  unfold goodB markL
  rw [if_neg hm]
  simp [empty_list]
theorem named_nil (m : ByteArray) (hm : m.toList = []) : namedB m = false := by
  have : m.size = 0 := by rw [size_data, (toList_iff m).1 hm]; rfl
  unfold namedB
  rw [this]
  simp
theorem mark_wf (m : ByteArray) (hs : m.size ≤ 200000) : wfX (markL m) := by
  refine ⟨⟨by show (-2147483648 : Int) ≤ 0; decide, by show (0 : Int) ≤ 2147483647; decide⟩, by show m.size ≤ _; omega, ?_⟩
  show (0 : Nat) ≤ _
  omega
theorem good_mark {x : S40} (h : goodB x = true) (h0 : ¬ x.f0.toList = []) : x = markL x.f0 := by
  rcases good_cases h with ⟨h1, _⟩ | ⟨_, _, ⟨a, b, c, d, e⟩, h2⟩
  · exact absurd h1 h0
  · have := nil_data h2
    obtain ⟨m, ⟨p, q, r, s, u⟩, t⟩ := x
    simp only at a b c d e this
    subst a b c d e this
    rfl
theorem mark_post (t m : ByteArray) (ht : t.data.toList = m.data.toList ++ [58]) (hs : t.size ≤ 100000) : Post t (tellR (markL m) (namedB m)) := by
  have hms : m.size ≤ 100000 := by rw [size_data, ht, List.length_append] at hs; rw [size_data]; omega
  constructor
  · intro hok
    have hn : namedB m = true := hok
    rw [lineOf_tell]
    by_cases hm : m.toList = []
    · rw [named_nil m hm] at hn; cases hn
    · refine ⟨mark_wf m (by omega), by rw [mark_good m hm]; exact hn, ?_⟩
      rw [ht]
      exact line_mark hm
  · intro x hw hg hl
    have h0 : ¬ x.f0.toList = [] := by
      intro h0
      have := (line_chars hg).2.1 h0
      rw [hl, ht] at this
      exact this (by simp)
    rw [line_mark h0, ht] at hl
    have hm : x.f0 = m := ba_ext (List.append_cancel_right hl)
    have hx := good_mark hg h0
    rw [hm] at hx
    rw [hx, mark_good m (by rw [← hm]; exact h0)] at hg
    rw [hx, hg]
/-- The kinds of shapes. -/
theorem kinds (op : Int) (h : 0 ≤ op ∧ op < 26) : (shapeOf op = ⟨#[]⟩ ∧ (List.range 4).filter (fun k => uses op k) = []) ∨ (shapeOf op = ⟨#[97]⟩ ∧ (List.range 4).filter (fun k => uses op k) = [0]) ∨ (shapeOf op = ⟨#[105]⟩ ∧ (List.range 4).filter (fun k => uses op k) = [3]) ∨ (shapeOf op = ⟨#[97, 98]⟩ ∧ (List.range 4).filter (fun k => uses op k) = [0, 1]) ∨ (shapeOf op = ⟨#[97, 105]⟩ ∧ (List.range 4).filter (fun k => uses op k) = [0, 3]) ∨ (shapeOf op = ⟨#[97, 98, 105]⟩ ∧ (List.range 4).filter (fun k => uses op k) = [0, 1, 3]) ∨ (shapeOf op = ⟨#[97, 98, 99]⟩ ∧ (List.range 4).filter (fun k => uses op k) = [0, 1, 2]) := by
  obtain ⟨n, rfl⟩ : ∃ n : Nat, op = (n : Int) := ⟨op.toNat, by omega⟩
  have key : ∀ n : Fin 26, (shapeOf (n.1 : Int) = ⟨#[]⟩ ∧ (List.range 4).filter (fun k => uses (n.1 : Int) k) = []) ∨ (shapeOf (n.1 : Int) = ⟨#[97]⟩ ∧ (List.range 4).filter (fun k => uses (n.1 : Int) k) = [0]) ∨ (shapeOf (n.1 : Int) = ⟨#[105]⟩ ∧ (List.range 4).filter (fun k => uses (n.1 : Int) k) = [3]) ∨ (shapeOf (n.1 : Int) = ⟨#[97, 98]⟩ ∧ (List.range 4).filter (fun k => uses (n.1 : Int) k) = [0, 1]) ∨ (shapeOf (n.1 : Int) = ⟨#[97, 105]⟩ ∧ (List.range 4).filter (fun k => uses (n.1 : Int) k) = [0, 3]) ∨ (shapeOf (n.1 : Int) = ⟨#[97, 98, 105]⟩ ∧ (List.range 4).filter (fun k => uses (n.1 : Int) k) = [0, 1, 3]) ∨ (shapeOf (n.1 : Int) = ⟨#[97, 98, 99]⟩ ∧ (List.range 4).filter (fun k => uses (n.1 : Int) k) = [0, 1, 2]) := by decide +kernel
  exact key ⟨n, by omega⟩
def wordX (x : S40) (k : Nat) : List UInt8 := if k = 3 then wordI x else 114 :: Lib.itoa (num x.f1.f1 x.f1.f2 x.f1.f3 0 k)
theorem lineWords_eq (x : S40) : lineWords x = ((List.range 4).filter (fun k => uses x.f1.f0 k)).map (wordX x) := by
  unfold lineWords preW wordsOf
  rw [show List.range 4 = List.range 3 ++ [3] from rfl, List.filter_append, List.map_append]
  have h3 : ∀ k ∈ (List.range 3).filter (fun k => uses x.f1.f0 k), wordOf x.f1.f1 x.f1.f2 x.f1.f3 0 k = wordX x k := by
    intro k hk
    have hk2 : k < 3 := List.mem_range.1 (List.mem_filter.1 hk).1
    have : k = 0 ∨ k = 1 ∨ k = 2 := by omega
    rcases this with rfl | rfl | rfl <;> rfl
  rw [List.map_congr_left h3]
  by_cases h : uses x.f1.f0 3 = true
  · rw [if_pos h, List.filter_cons_of_pos h]; rfl
  · rw [if_neg h, List.filter_cons_of_neg h]; rfl
theorem uses_kind {op : Int} {l : List Nat} (h : (List.range 4).filter (fun k => uses op k) = l) (k : Nat) (hk : k < 4) : uses op k = true ↔ k ∈ l := by
  rw [← h, List.mem_filter]
  exact ⟨fun hu => ⟨List.mem_range.2 hk, hu⟩, fun hm => hm.2⟩
/-- What is not used is 0, and no mark stands where there is no number. -/
theorem zeros_of {x : S40} (h0 : x.f0.toList = []) (h : goodB x = true) {l : List Nat} (hl : (List.range 4).filter (fun k => uses x.f1.f0 k) = l) : (0 ∉ l → x.f1.f1 = 0) ∧ (1 ∉ l → x.f1.f2 = 0) ∧ (2 ∉ l → x.f1.f3 = 0) ∧ (3 ∉ l → x.f1.f4 = 0 ∧ x.f2 = ⟨#[]⟩) := by
  rcases good_cases h with ⟨_, hf, ht⟩ | ⟨h1, _⟩
  · have hu := fun k hk (hn : k ∉ l) => (fit_used hf k hk).resolve_left (fun e => hn ((uses_kind hl k hk).1 e))
    refine ⟨hu 0 (by decide), hu 1 (by decide), hu 2 (by decide), fun hn => ⟨hu 3 (by decide) hn, ?_⟩⟩
    rcases ht with ht | ⟨_, _, hg, _⟩
    · exact nil_data ht
    · exact absurd ((uses_kind hl 3 (by decide)).1 (uses_goes hg)) hn
  · exact absurd h0 h1
theorem good_regs {x : S40} (h0 : x.f0.toList = []) (h : goodB x = true) : (0 ≤ x.f1.f0 ∧ x.f1.f0 < 26) ∧ (0 ≤ x.f1.f1 ∧ x.f1.f1 < 16) ∧ (0 ≤ x.f1.f2 ∧ x.f1.f2 < 16) ∧ (0 ≤ x.f1.f3 ∧ x.f1.f3 < 16) := by
  rcases good_cases h with ⟨_, hf, _⟩ | ⟨h1, _⟩
  · have := fitB_regs hf
    omega
  · exact absurd h0 h1
/-- The words of a good line's text. -/
theorem line_words {x : S40} (h0 : x.f0.toList = []) (h : goodB x = true) : lineT x = (nameN x.f1.f0.toNat).data.toList ++ joined (lineWords x) ∧ (32 : UInt8) ∉ (nameN x.f1.f0.toNat).data.toList ∧ ∀ w ∈ lineWords x, (32 : UInt8) ∉ w := by
  have hr := (good_regs h0 h).1
  refine ⟨by unfold lineT; rw [if_pos h0], fun hc => (names_chars _ (by omega) 32 hc).1.2.1 rfl, fun w hw hc => (words_chars h0 h w hw 32 hc).2.1 rfl⟩
theorem wordI_data {x : S40} (hg : goodB x = true) (h0 : x.f0.toList = []) : (x.f2 = ⟨#[]⟩ ∧ wordI x = Lib.itoa x.f1.f4) ∨ (x.f2.toList ≠ [] ∧ namedB x.f2 = true ∧ ((x.f1.f4 = 0 ∧ wordI x = 64 :: x.f2.data.toList) ∨ (x.f1.f4 ≠ 0 ∧ wordI x = 64 :: (x.f2.data.toList ++ 43 :: Lib.itoa x.f1.f4)))) := by
  unfold wordI
  rcases good_cases hg with ⟨_, _, ht | ⟨ht, hn, _⟩⟩ | ⟨h1, _⟩
  · exact .inl ⟨nil_data ht, if_pos ht⟩
  · refine .inr ⟨ht, hn, ?_⟩
    rw [if_neg ht]
    by_cases he : x.f1.f4 = 0
    · exact .inl ⟨he, if_pos he⟩
    · exact .inr ⟨he, if_neg he⟩
  · exact absurd h0 h1
theorem itoa_head (n : Int) : ∃ c r, Lib.itoa n = c :: r ∧ c ≠ 64 ∧ c ≠ 43 ∧ c ≠ 114 := by
  have h := itoa_wch n
  cases hq : Lib.itoa n with
  | nil =>
    exfalso
    unfold Lib.itoa at hq
    split at hq
    · cases hq
    · exact decDigits_ne _ hq
  | cons c r =>
    have := h c (by rw [hq]; exact List.mem_cons_self)
    exact ⟨c, r, rfl, this.2.1, this.2.2.1, this.2.2.2⟩
end Go.Proofs.YtbelnkdbghggmaaGreatDoor.X
namespace Go.Proofs.YtbelnkdbghggmaaGreatDoor.X
open Go.RowKit Go.Proofs.YtbelnkdbghggmaaGreatDoorW.PrintWords
set_option linter.unusedVariables false
set_option linter.unusedSimpArgs false
theorem numB_itoa (n : Int) (h : I32 n) : numB (toB (Lib.itoa n)) = (n, true) := by
  unfold numB
  rw [toB_data, parseI_itoa n h.1 h.2]
theorem numB_bd (s : ByteArray) : I32 (numB s).1 := by
  unfold numB
  cases hp : Lib.parseIntB 32 s.data.toList with
  | ok v =>
    have hv := Lib.parseIntB_bounds hp
    show I32 v
    have : ((2 ^ (32 - 1) : Nat) : Int) = 2147483648 := by decide
    unfold I32
    omega
  | «syntax» => show I32 0; unfold I32; omega
  | range => exact wrap32_bd _
theorem number_val (s : ByteArray) (h : s.size ≤ 200000) : asm_number.f s = some (numB s) := by
  unfold asm_number.f
  rw [if_pos (by omega)]
theorem prefix_yes (c : UInt8) (l : List UInt8) : strings_CutPrefix.f (toB (c :: l)) ⟨#[c]⟩ = some (toB l, true) := by
  unfold strings_CutPrefix.f Lib.trimPrefix Lib.hasPrefix
  simp [toB, List.isPrefixOf]
theorem prefix_no (c d : UInt8) (l : List UInt8) (h : d ≠ c) : strings_CutPrefix.f (toB (d :: l)) ⟨#[c]⟩ = some (toB (d :: l), false) := by
  unfold strings_CutPrefix.f Lib.trimPrefix Lib.hasPrefix
  have : ([c] : List UInt8).isPrefixOf (d :: l) = false := by simp [List.isPrefixOf, Ne.symm h]
  simp [toB, List.isPrefixOf, Ne.symm h]
theorem prefix_size (s p : ByteArray) : ∃ m b, strings_CutPrefix.f s p = some (m, b) ∧ m.size ≤ s.size := by
  refine ⟨_, _, rfl, ?_⟩
  rw [size_data, size_data]
  show (Lib.trimPrefix s.data.toList p.data.toList).length ≤ _
  unfold Lib.trimPrefix
  split
  · rw [List.length_drop]; omega
  · exact Nat.le_refl _
theorem cut_size (s p : ByteArray) (hs : s.size ≤ 200000) : ∃ a b f, strings_Cut.f s p = some (a, b, f) ∧ a.size ≤ s.size ∧ b.size ≤ s.size := by
  unfold strings_Cut.f
  rw [if_pos (by omega)]
  refine ⟨_, _, _, rfl, ?_, ?_⟩
  · rw [size_data, size_data]
    show (Lib.cut s.data.toList p.data.toList).1.length ≤ _
    unfold Lib.cut
    split
    · rw [List.length_take]; omega
    · exact Nat.le_refl _
  · rw [size_data, size_data]
    show (Lib.cut s.data.toList p.data.toList).2.1.length ≤ _
    unfold Lib.cut
    split
    · rw [List.length_drop]; omega
    · simp
/-- A state that the reader can be in. -/
def StA (s : RS) : Prop := (lineOf s).f0 = ⟨#[]⟩ ∧ I32 (lineOf s).f1.f4 ∧ (lineOf s).f2.size ≤ 100000
theorem reg_total (s : RS) (w : ByteArray) (hw : w.size ≤ 100000) : ∃ v b, asm_reader_register.f s.1 s.2.1 s.2.2.1 s.2.2.2.1 s.2.2.2.2.1 s.2.2.2.2.2.1 s.2.2.2.2.2.2.1 s.2.2.2.2.2.2.2 w = some (v, s.1, s.2.1, s.2.2.1, s.2.2.2.1, s.2.2.2.2.1, s.2.2.2.2.2.1, s.2.2.2.2.2.2.1, b) := by
  obtain ⟨m, b, h1, h2⟩ := prefix_size w ⟨#[114]⟩
  unfold asm_reader_register.f
  rw [h1]
  simp only [Option.bind_some]
  rw [number_val m (by omega)]
  simp only [Option.bind_some]
  split
  · split
    · exact ⟨_, _, rfl⟩
    · exact ⟨_, _, rfl⟩
  · exact ⟨_, _, rfl⟩
theorem val_total (s : RS) (w : ByteArray) (hw : w.size ≤ 100000) (hs : StA s) : ∃ s', asm_reader_value.f s.1 s.2.1 s.2.2.1 s.2.2.2.1 s.2.2.2.2.1 s.2.2.2.2.2.1 s.2.2.2.2.2.2.1 s.2.2.2.2.2.2.2 w = some s' ∧ StA s' := by
  obtain ⟨m, b, h1, h2⟩ := prefix_size w ⟨#[64]⟩
  obtain ⟨p, q, f, h3, h4, h5⟩ := cut_size m ⟨#[43]⟩ (by omega)
  have n1 := number_val q (by omega)
  have n2 := number_val (⟨#[48]⟩ : ByteArray) (by decide)
  have n3 := number_val w (by omega)
  have b1 := numB_bd q
  have b2 := numB_bd (⟨#[48]⟩ : ByteArray)
  have b3 := numB_bd w
  unfold asm_reader_value.f
  rw [h1]
  simp only [Option.bind_some]
  rw [h3, n3]
  simp only [Option.bind_some]
  rw [n1, n2]
  simp only [Option.bind_some]
  repeat' split
  all_goals first
    | exact ⟨_, rfl, hs.1, b1, (by show p.size ≤ 100000; omega)⟩
    | exact ⟨_, rfl, hs.1, b2, (by show p.size ≤ 100000; omega)⟩
    | exact ⟨_, rfl, hs.1, b3, hs.2.2⟩
theorem part_total (s : RS) (c : Int) (w : ByteArray) (hw : w.size ≤ 100000) (hs : StA s) : ∃ s', partR s c w = some s' ∧ StA s' := by
  unfold partR asm_reader_part.f
  obtain ⟨v, b, hr⟩ := reg_total s w hw
  obtain ⟨s', h1, h2⟩ := val_total s w hw hs
  rw [hr, h1]
  simp only [Option.bind_some]
  split
  · exact ⟨_, rfl, hs⟩
  · split
    · exact ⟨_, rfl, hs⟩
    · split
      · exact ⟨_, rfl, hs⟩
      · exact ⟨_, rfl, h2⟩
theorem parts_total (ws : List ByteArray) (sh : ByteArray) (op : Int) (hl : ws.length = sh.size + 1) (hz : ∀ w ∈ ws, w.size ≤ 100000) (hsh : ∀ i, i < sh.size → (sh.data.getD i 0).toNat < 128) : ∀ n, n ≤ sh.size → ∃ s, partsUpto ws sh op n = some s ∧ StA s
  | 0, _ => ⟨_, rfl, rfl, by show I32 0; unfold I32; omega, by show (0 : Nat) ≤ 100000; omega⟩
  | i + 1, hi => by
    obtain ⟨s, h1, h2⟩ := parts_total ws sh op hl hz hsh i (by omega)
    have hlt : i + 1 < ws.length := by omega
    have hmem : rdOf ByteArray.empty ws ((i + 1 : Nat) : Int) ∈ ws := by
      unfold rdOf
      rw [show (((i + 1 : Nat) : Int)).toNat = i + 1 from by omega, List.getD_eq_getElem?_getD, List.getElem?_eq_getElem hlt]
      exact List.getElem_mem hlt
    obtain ⟨s', h3, h4⟩ := part_total s ((sh.data.getD i 0).toNat : Int) _ (hz _ hmem) h2
    refine ⟨s', ?_, h4⟩
    simp only [partsUpto]
    rw [if_pos ⟨hlt, hsh i (by omega)⟩, h1]
    simp only [Option.bind_some]
    exact h3
/-- A register that is written is read. -/
theorem reg_of (s : RS) (hok : okOf s = true) (a : Int) (ha : 0 ≤ a ∧ a < 16) : asm_reader_register.f s.1 s.2.1 s.2.2.1 s.2.2.2.1 s.2.2.2.2.1 s.2.2.2.2.2.1 s.2.2.2.2.2.2.1 s.2.2.2.2.2.2.2 (toB (114 :: Lib.itoa a)) = some (a, s.1, s.2.1, s.2.2.1, s.2.2.2.1, s.2.2.2.2.1, s.2.2.2.2.2.1, s.2.2.2.2.2.2.1, true) := by
  have hs := itoa_len32 a (by omega) (by omega)
  have hok2 : s.2.2.2.2.2.2.2 = true := hok
  unfold asm_reader_register.f
  rw [prefix_yes]
  simp only [Option.bind_some]
  rw [number_val _ (by rw [size_data, toB_data]; omega), numB_itoa a (by unfold I32; omega), hok2]
  simp only [Option.bind_some, if_true]
  rw [w64 _ (by omega) (by omega)]
theorem val_of (y : S40) (hy : goodB y = true) (hyw : wfX y) (hy0 : y.f0.toList = []) (s : RS) (hok : okOf s = true) (h2 : s.2.2.2.2.2.2.1 = ⟨#[]⟩) :
    asm_reader_value.f s.1 s.2.1 s.2.2.1 s.2.2.2.1 s.2.2.2.2.1 s.2.2.2.2.2.1 s.2.2.2.2.2.2.1 s.2.2.2.2.2.2.2 (toB (wordI y)) = some (s.1, s.2.1, s.2.2.1, s.2.2.2.1, s.2.2.2.2.1, y.f1.f4, y.f2, true) := by
  have hok2 : s.2.2.2.2.2.2.2 = true := hok
  have h32 : I32 y.f1.f4 := hyw.1
  have hil := itoa_len32 y.f1.f4 h32.1 h32.2
  unfold asm_reader_value.f
  rcases wordI_data hy hy0 with ⟨hf, hwi⟩ | ⟨hf, hn, hwi⟩
  · obtain ⟨c, r, hc, h64, _⟩ := itoa_head y.f1.f4
    rw [hwi, hc, prefix_no 64 c r h64]
    simp only [Option.bind_some]
    rw [if_neg (by decide), ← hc, number_val _ (by rw [size_data, toB_data]; omega), numB_itoa _ h32, hok2]
    simp only [Option.bind_some, if_true]
    rw [h2, hf]
  · have hN := (named_size hn).2
    have hnc := named_chars hn
    have hno : (43 : UInt8) ∉ y.f2.data.toList := fun h => (hnc 43 h).2.1 rfl
    rcases hwi with ⟨he, hwi⟩ | ⟨he, hwi⟩
    · have hcut : strings_Cut.f (toB y.f2.data.toList) (⟨#[43]⟩ : ByteArray) = some (y.f2, ⟨#[]⟩, false) := by
        unfold strings_Cut.f cutB
        rw [if_pos (by rw [size_data, toB_data, ← size_data]; omega), toB_data, show (⟨#[43]⟩ : ByteArray).data.toList = [43] from rfl, cut_none 43 _ hno]
        try rw [of_data]
      rw [hwi, prefix_yes]
      simp only [Option.bind_some, if_true]
      rw [hcut, hok2]
      simp only [Option.bind_some, if_true]
      rw [if_neg (by decide), number_val _ (by decide), show numB (⟨#[48]⟩ : ByteArray) = (0, true) from by decide +kernel]
      simp only [Option.bind_some]
      rw [if_neg hf, he]
    · have hcut : strings_Cut.f (toB (y.f2.data.toList ++ 43 :: Lib.itoa y.f1.f4)) (⟨#[43]⟩ : ByteArray) = some (y.f2, toB (Lib.itoa y.f1.f4), true) := by
        unfold strings_Cut.f cutB
        rw [if_pos (by rw [size_data, toB_data, List.length_append, List.length_cons, ← size_data]; omega), toB_data, show (⟨#[43]⟩ : ByteArray).data.toList = [43] from rfl, cut_at 43 _ _ hno]
        rw [of_data]
        try rfl
      rw [hwi, prefix_yes]
      simp only [Option.bind_some, if_true]
      rw [hcut, hok2]
      simp only [Option.bind_some, if_true]
      rw [number_val _ (by rw [size_data, toB_data]; omega), numB_itoa _ h32]
      simp only [Option.bind_some]
      rw [if_neg hf]
theorem part_a (s : RS) (hok : okOf s = true) (a : Int) (ha : 0 ≤ a ∧ a < 16) : partR s 97 (toB (114 :: Lib.itoa a)) = some (s.1, s.2.1, a, s.2.2.2.1, s.2.2.2.2.1, s.2.2.2.2.2.1, s.2.2.2.2.2.2.1, true) := by
  unfold partR asm_reader_part.f
  rw [reg_of s hok a ha]
  rfl
theorem part_b (s : RS) (hok : okOf s = true) (a : Int) (ha : 0 ≤ a ∧ a < 16) : partR s 98 (toB (114 :: Lib.itoa a)) = some (s.1, s.2.1, s.2.2.1, a, s.2.2.2.2.1, s.2.2.2.2.2.1, s.2.2.2.2.2.2.1, true) := by
  unfold partR asm_reader_part.f
  rw [reg_of s hok a ha]
  rfl
theorem part_c (s : RS) (hok : okOf s = true) (a : Int) (ha : 0 ≤ a ∧ a < 16) : partR s 99 (toB (114 :: Lib.itoa a)) = some (s.1, s.2.1, s.2.2.1, s.2.2.2.1, a, s.2.2.2.2.2.1, s.2.2.2.2.2.2.1, true) := by
  unfold partR asm_reader_part.f
  rw [reg_of s hok a ha]
  rfl
theorem part_i (y : S40) (hy : goodB y = true) (hyw : wfX y) (hy0 : y.f0.toList = []) (s : RS) (hok : okOf s = true) (h2 : s.2.2.2.2.2.2.1 = ⟨#[]⟩) : partR s 105 (toB (wordI y)) = some (s.1, s.2.1, s.2.2.1, s.2.2.2.1, s.2.2.2.2.1, y.f1.f4, y.f2, true) := by
  unfold partR asm_reader_part.f
  rw [val_of y hy hyw hy0 s hok h2]
  rfl
/-- The parts of a good line are read. -/
theorem parts_of (y : S40) (hy : goodB y = true) (hyw : wfX y) (hy0 : y.f0.toList = []) : asm_parts.f ((((nameN y.f1.f0.toNat).data.toList) :: lineWords y).map toB) (shapeOf y.f1.f0) y.f1.f0 = some (tellR y true) := by
  obtain ⟨hop, ha, hb, hc⟩ := good_regs hy0 hy
  have hf0 := nil_data hy0
  rw [lineWords_eq]
  have na : num y.f1.f1 y.f1.f2 y.f1.f3 0 0 = y.f1.f1 := rfl
  have nb : num y.f1.f1 y.f1.f2 y.f1.f3 0 1 = y.f1.f2 := rfl
  have nc : num y.f1.f1 y.f1.f2 y.f1.f3 0 2 = y.f1.f3 := rfl
  have w0 : wordX y 0 = 114 :: Lib.itoa y.f1.f1 := rfl
  have w1 : wordX y 1 = 114 :: Lib.itoa y.f1.f2 := rfl
  have w2 : wordX y 2 = 114 :: Lib.itoa y.f1.f3 := rfl
  have w3 : wordX y 3 = wordI y := rfl
  have pa := fun (s : RS) (h : okOf s = true) => part_a s h _ ha
  have pb := fun (s : RS) (h : okOf s = true) => part_b s h _ hb
  have pc := fun (s : RS) (h : okOf s = true) => part_c s h _ hc
  have pi := part_i y hy hyw hy0
  have fin : ∀ s : RS, s = tellR y true → some s = some (tellR y true) := fun s h => congrArg some h
  obtain ⟨m, ⟨op, a, b, c, e⟩, tq⟩ := y
  simp only at *
  subst hf0
  rcases kinds op hop with ⟨hs, hk⟩ | ⟨hs, hk⟩ | ⟨hs, hk⟩ | ⟨hs, hk⟩ | ⟨hs, hk⟩ | ⟨hs, hk⟩ | ⟨hs, hk⟩
  all_goals
    obtain ⟨z0, z1, z2, z3⟩ := zeros_of hy0 hy hk
    simp only [List.mem_cons, List.mem_singleton, List.not_mem_nil, or_false, false_or] at z0 z1 z2 z3
    rw [hs, hk]
    unfold asm_parts.f
    simp only [List.map_cons, List.map_nil, w0, w1, w2, w3]
  · exact fin _ (by
      unfold tellR
      simp only [z0 (by decide), z1 (by decide), z2 (by decide), (z3 (by decide)).1, (z3 (by decide)).2])
  · show partsUpto _ _ op 1 = _
    simp only [partsUpto]
    rw [if_pos ⟨by simp, by decide⟩]
    simp only [Option.bind_some]
    refine (pa _ rfl).trans (fin _ ?_)
    unfold tellR
    simp only [z1 (by decide), z2 (by decide), (z3 (by decide)).1, (z3 (by decide)).2]
  · show partsUpto _ _ op 1 = _
    simp only [partsUpto]
    rw [if_pos ⟨by simp, by decide⟩]
    simp only [Option.bind_some]
    refine (pi _ rfl rfl).trans (fin _ ?_)
    unfold tellR
    simp only [z0 (by decide), z1 (by decide), z2 (by decide)]
  · show partsUpto _ _ op 2 = _
    simp only [partsUpto]
    rw [if_pos ⟨by simp, by decide⟩, if_pos ⟨by simp, by decide⟩]
    simp only [Option.bind_some]
    refine (congrArg (fun o => Option.bind o _) (pa _ rfl)).trans ?_
    refine (pb _ rfl).trans (fin _ ?_)
    unfold tellR
    simp only [z2 (by decide), (z3 (by decide)).1, (z3 (by decide)).2]
  · show partsUpto _ _ op 2 = _
    simp only [partsUpto]
    rw [if_pos ⟨by simp, by decide⟩, if_pos ⟨by simp, by decide⟩]
    simp only [Option.bind_some]
    refine (congrArg (fun o => Option.bind o _) (pa _ rfl)).trans ?_
    refine (pi _ rfl rfl).trans (fin _ ?_)
    unfold tellR
    simp only [z1 (by decide), z2 (by decide)]
  · show partsUpto _ _ op 3 = _
    simp only [partsUpto]
    rw [if_pos ⟨by simp, by decide⟩, if_pos ⟨by simp, by decide⟩, if_pos ⟨by simp, by decide⟩]
    simp only [Option.bind_some]
    refine (congrArg (fun o => Option.bind (Option.bind o _) _) (pa _ rfl)).trans ?_
    refine (congrArg (fun o => Option.bind o _) (pb _ rfl)).trans ?_
    refine (pi _ rfl rfl).trans (fin _ ?_)
    unfold tellR
    simp only [z2 (by decide)]
  · show partsUpto _ _ op 3 = _
    simp only [partsUpto]
    rw [if_pos ⟨by simp, by decide⟩, if_pos ⟨by simp, by decide⟩, if_pos ⟨by simp, by decide⟩]
    simp only [Option.bind_some]
    refine (congrArg (fun o => Option.bind (Option.bind o _) _) (pa _ rfl)).trans ?_
    refine (congrArg (fun o => Option.bind o _) (pb _ rfl)).trans ?_
    refine (pc _ rfl).trans (fin _ ?_)
    unfold tellR
    simp only [(z3 (by decide)).1, (z3 (by decide)).2]
end Go.Proofs.YtbelnkdbghggmaaGreatDoor.X
namespace Go.Proofs.YtbelnkdbghggmaaGreatDoor.X
open Go.RowKit Go.Proofs.YtbelnkdbghggmaaGreatDoorW.PrintWords
set_option linter.unusedVariables false
set_option linter.unusedSimpArgs false
theorem fit_zero (n : Nat) (hn : n < 26) : fitB (n : Int) 0 0 0 0 = true := by
  have key : ∀ n : Fin 26, fitB (n.1 : Int) 0 0 0 0 = true := by decide +kernel
  exact key ⟨n, hn⟩
theorem zero_text (n : Nat) (hn : n < 26) : ∃ ws, (textP (n : Int) 0 0 0 0 (List.range 4)).data.toList = (nameN n).data.toList ++ joined ws ∧ ∀ w ∈ ws, (32 : UInt8) ∉ w := by
  refine ⟨_, textP_words (n : Int) 0 0 0 0 (List.range 4), ?_⟩
  intro w hw h
  unfold wordsOf at hw
  obtain ⟨k, _, rfl⟩ := List.mem_map.1 hw
  unfold wordOf at h
  split at h
  · exact (itoa_wch _ 32 h).1.2.1 rfl
  · rcases List.mem_cons.1 h with h | h
    · exact absurd h (by decide)
    · exact (itoa_wch _ 32 h).1.2.1 rfl
theorem name_blank (n : Nat) (hn : n < 26) : (32 : UInt8) ∉ (nameN n).data.toList := fun hc => (names_chars n hn 32 hc).1.2.1 rfl
theorem op_l (w : ByteArray) : ∀ (d i k : Nat), i + d = 26 → d + 2 ≤ k → (∀ m : Nat, m < i → ¬ (nameN m).data.toList = w.data.toList) → ∃ op, asm_operation.l0 k w (i : Int) = some op ∧ (-1 ≤ op ∧ op < 26) ∧ ∀ m : Nat, m < 26 → (nameN m).data.toList = w.data.toList → op = (m : Int)
  | 0, i, k, hi, hk, hm => by
    obtain ⟨k, rfl⟩ : ∃ m, k = m + 1 := ⟨k - 1, by omega⟩
    refine ⟨-1, ?_, by omega, fun m h1 h2 => absurd h2 (hm m (by omega))⟩
    simp only [asm_operation.l0]
    rw [if_neg (by omega)]
  | d + 1, i, k, hi, hk, hm => by
    obtain ⟨k, rfl⟩ : ∃ m, k = m + 1 := ⟨k - 1, by omega⟩
    have hn : i < 26 := by omega
    obtain ⟨ws, hws, hwb⟩ := zero_text i hn
    have hsz := txt_size (i : Int) 0 0 0 0 (by omega)
    have htv : txtV (i : Int) 0 0 0 0 = textP (i : Int) 0 0 0 0 (List.range 4) := if_pos (fit_zero i hn)
    have hcut : ∃ b f, strings_Cut.f (txtV (i : Int) 0 0 0 0) (⟨#[32]⟩ : ByteArray) = some (nameN i, b, f) := by
      unfold strings_Cut.f cutB
      rw [if_pos (by omega), htv, hws, show (⟨#[32]⟩ : ByteArray).data.toList = [32] from rfl]
      cases ws with
      | nil =>
        rw [joined, List.append_nil, cut_none 32 _ (name_blank i hn)]
        exact ⟨_, _, by rw [of_data]⟩
      | cons v r =>
        rw [joined, cut_at 32 _ _ (name_blank i hn)]
        exact ⟨_, _, by rw [of_data]⟩
    obtain ⟨b, f, hcut⟩ := hcut
    simp only [asm_operation.l0]
    unfold inst_TextE.f
    rw [if_pos (by omega), txt_val _ _ _ _ _ (by omega)]
    simp only [Option.bind_some]
    rw [hcut]
    simp only [Option.bind_some]
    rw [ByteArray.toList_eq, ByteArray.toList_eq, w64 _ (by omega) (by omega), show ((i : Int) + 1) = ((i + 1 : Nat) : Int) from by omega]
    by_cases he : (nameN i).data.toList = w.data.toList
    · rw [if_pos he]
      exact ⟨(i : Int), rfl, by omega, fun m h1 h2 => by rw [names_inj m i h1 hn (h2.trans he.symm)]⟩
    · rw [if_neg he]
      exact op_l w d (i + 1) k (by omega) (by omega) (fun m h1 => by
        rcases Nat.lt_or_ge m i with h2 | h2
        · exact hm m h2
        · rw [show m = i from by omega]; exact he)
theorem op_val (K : Nat) (hK : 30 ≤ K) (w : ByteArray) : ∃ op, asm_operation.f K w = some op ∧ (-1 ≤ op ∧ op < 26) ∧ ∀ m : Nat, m < 26 → (nameN m).data.toList = w.data.toList → op = (m : Int) :=
  op_l w 26 0 K (by omega) (by omega) (fun m h => by omega)
theorem map_toB : ∀ {l : List ByteArray} {m : List (List UInt8)}, l.map (·.data.toList) = m → l = m.map toB
  | [], [], _ => rfl
  | [], _ :: _, h => by cases h
  | _ :: _, [], h => by cases h
  | a :: l, b :: m, h => by
    simp only [List.map_cons, List.cons.injEq] at h
    rw [List.map_cons, ← map_toB h.2, ← h.1, toB, of_data]
theorem split_val (t : ByteArray) (hs : t.size ≤ 100000) : ∃ w r, strings_Split.f t ⟨#[32]⟩ = some (w :: r) ∧ (∀ v ∈ w :: r, v.size ≤ 100000) ∧ ∀ (a : List UInt8) (ws : List (List UInt8)), t.data.toList = a ++ joined ws → (32 : UInt8) ∉ a → (∀ v ∈ ws, (32 : UInt8) ∉ v) → w :: r = (a :: ws).map toB := by
  unfold strings_Split.f
  rw [if_pos ⟨by omega, by decide⟩]
  have hl : (splitF t ⟨#[32]⟩).length = Lib.countB t ⟨#[32]⟩ + 1 := Lib.splitB_all _ (by decide) 0 _ t rfl
  have hz : ∀ v ∈ splitF t ⟨#[32]⟩, v.size ≤ 100000 := fun v hv => Nat.le_trans (splitB_size _ _ t v hv) hs
  have hd : ∀ (a : List UInt8) (ws : List (List UInt8)), t.data.toList = a ++ joined ws → (32 : UInt8) ∉ a → (∀ v ∈ ws, (32 : UInt8) ∉ v) → splitF t ⟨#[32]⟩ = (a :: ws).map toB := by
    intro a ws ht ha hw
    apply map_toB
    have h1 := Lib.splitB_data (⟨#[32]⟩ : ByteArray) 0 (Lib.countB t ⟨#[32]⟩) t
    have h2 := split_joined ws a ha hw
    unfold splitF
    rw [h1, ht, show (⟨#[32]⟩ : ByteArray).data.toList = [32] from rfl, ← h2]
    show Lib.splitK [32] 0 (Lib.count t.data.toList [32]) (a ++ joined ws) = _
    rw [ht]
  cases hsp : splitF t ⟨#[32]⟩ with
  | nil => rw [hsp] at hl; simp at hl
  | cons w r =>
    rw [hsp] at hz hd
    exact ⟨w, r, rfl, hz, hd⟩
theorem shape_small (op : Int) : (shapeOf op).size ≤ 3 ∧ ∀ i, i < (shapeOf op).size → ((shapeOf op).data.getD i 0).toNat < 128 := by
  by_cases h : 0 ≤ op ∧ op < 26
  · rcases kinds op h with ⟨hs, _⟩ | ⟨hs, _⟩ | ⟨hs, _⟩ | ⟨hs, _⟩ | ⟨hs, _⟩ | ⟨hs, _⟩ | ⟨hs, _⟩ <;> rw [hs]
    · exact ⟨by decide, fun i hi => absurd hi (Nat.not_lt_zero i)⟩
    · refine ⟨by decide, fun i hi => ?_⟩
      have hi : i < 1 := hi
      have : i = 0 := by omega
      subst this; decide
    · refine ⟨by decide, fun i hi => ?_⟩
      have hi : i < 1 := hi
      have : i = 0 := by omega
      subst this; decide
    · refine ⟨by decide, fun i hi => ?_⟩
      have hi : i < 2 := hi
      have : i = 0 ∨ i = 1 := by omega
      rcases this with rfl | rfl <;> decide
    · refine ⟨by decide, fun i hi => ?_⟩
      have hi : i < 2 := hi
      have : i = 0 ∨ i = 1 := by omega
      rcases this with rfl | rfl <;> decide
    · refine ⟨by decide, fun i hi => ?_⟩
      have hi : i < 3 := hi
      have : i = 0 ∨ i = 1 ∨ i = 2 := by omega
      rcases this with rfl | rfl | rfl <;> decide
    · refine ⟨by decide, fun i hi => ?_⟩
      have hi : i < 3 := hi
      have : i = 0 ∨ i = 1 ∨ i = 2 := by omega
      rcases this with rfl | rfl | rfl <;> decide
  · have hs : shapeOf op = ByteArray.empty := by unfold shapeOf; rw [if_neg h]
    rw [hs]
    exact ⟨by decide, fun i hi => absurd hi (Nat.not_lt_zero i)⟩
theorem words_len (x : S40) (h0 : x.f0.toList = []) (h : goodB x = true) : (lineWords x).length = (shapeOf x.f1.f0).size := by
  rw [lineWords_eq, List.length_map]
  rcases kinds x.f1.f0 (good_regs h0 h).1 with ⟨hs, hk⟩ | ⟨hs, hk⟩ | ⟨hs, hk⟩ | ⟨hs, hk⟩ | ⟨hs, hk⟩ | ⟨hs, hk⟩ | ⟨hs, hk⟩ <;> (rw [hs, hk]; rfl)
/-- What the parts come to. -/
def endA (t : ByteArray) (s : RS) : Option RS := (if s.2.2.2.2.2.2.2 = true then ((asm_good.f s.1 s.2.1 s.2.2.1 s.2.2.2.1 s.2.2.2.2.1 s.2.2.2.2.2.1 s.2.2.2.2.2.2.1).bind fun t183 => (if t183 = true then ((asm_text.f s.1 s.2.1 s.2.2.1 s.2.2.2.1 s.2.2.2.2.1 s.2.2.2.2.2.1 s.2.2.2.2.2.2.1).bind fun t184 => (some (s.1, s.2.1, s.2.2.1, s.2.2.2.1, s.2.2.2.2.1, s.2.2.2.2.2.1, s.2.2.2.2.2.2.1, (t184.toList == t.toList)))) else (some (s.1, s.2.1, s.2.2.1, s.2.2.2.1, s.2.2.2.2.1, s.2.2.2.2.2.1, s.2.2.2.2.2.2.1, false)))) else (some (s.1, s.2.1, s.2.2.1, s.2.2.2.1, s.2.2.2.2.1, s.2.2.2.2.2.1, s.2.2.2.2.2.2.1, false)))
theorem endA_val (t : ByteArray) (s : RS) (hs : StA s) : endA t s = some (tellR (lineOf s) (okOf s && (goodB (lineOf s) && (lineT (lineOf s) == t.data.toList)))) := by
  have hw : wfX (lineOf s) := ⟨hs.2.1, by rw [hs.1]; decide, by have := hs.2.2; omega⟩
  unfold endA
  cases hok : okOf s with
  | false =>
    have hok2 : s.2.2.2.2.2.2.2 = false := hok
    rw [hok2, if_neg (by decide)]
    rfl
  | true =>
    have hok2 : s.2.2.2.2.2.2.2 = true := hok
    rw [hok2, if_pos rfl]
    have hg := good_val (lineOf s) hw
    refine (congrArg (fun o => Option.bind o _) hg).trans ?_
    simp only [Option.bind_some]
    cases hgb : goodB (lineOf s) with
    | false => rw [if_neg (by decide)]; rfl
    | true =>
      rw [if_pos rfl]
      refine (congrArg (fun o => Option.bind o _) (txt_good hw hgb)).trans ?_
      simp only [Option.bind_some]
      rw [ByteArray.toList_eq, ByteArray.toList_eq]
      rfl
theorem asm_read_post (K : Nat) (hK : 40 ≤ K) (t : ByteArray) (hs : t.size ≤ 100000) : ∃ r, asm_read.f K t = some r ∧ Post t r := by
  unfold asm_read.f strings_CutSuffix.f
  rw [if_pos (by omega)]
  simp only [Option.bind_some]
  by_cases hsuf : Lib.hasSuffix t.data.toList (⟨#[58]⟩ : ByteArray).data.toList = true
  · rw [if_pos hsuf]
    have h58 : [58] <:+ t.data.toList := by
      unfold Lib.hasSuffix at hsuf
      exact List.isSuffixOf_iff_suffix.1 hsuf
    obtain ⟨m, hm⟩ := h58
    have htr : (⟨(Lib.trimSuffix t.data.toList (⟨#[58]⟩ : ByteArray).data.toList).toArray⟩ : ByteArray) = toB m := by
      rw [← hm, show (⟨#[58]⟩ : ByteArray).data.toList = [58] from rfl, trim_app]
      rfl
    have hms : (toB m).size ≤ 100000 := by
      rw [size_data, ← hm, List.length_append] at hs
      rw [size_data, toB_data]
      omega
    rw [htr]
    unfold asm_named.f
    rw [if_pos (by omega)]
    simp only [Option.bind_some]
    exact ⟨_, rfl, mark_post t (toB m) (by rw [toB_data, hm]) hs⟩
  · rw [if_neg hsuf]
    have no58 : ∀ x : S40, lineT x = t.data.toList → x.f0.toList = [] := fun x hl => Classical.byContradiction fun h0 => hsuf (by
      rw [← hl, line_mark h0]
      unfold Lib.hasSuffix
      rw [List.isSuffixOf_iff_suffix]
      exact List.suffix_append _ _)
    obtain ⟨w, r, h1, h2, h3⟩ := split_val t hs
    rw [h1]
    simp only [Option.bind_some]
    rw [if_pos (by rw [List.length_cons]; omega)]
    have hrd : rdOf ByteArray.empty (w :: r) 0 = w := rfl
    obtain ⟨op, h4, h5, h6⟩ := op_val K (by omega) w
    rw [hrd, h4]
    simp only [Option.bind_some]
    unfold inst_Shape.f
    simp only [Option.bind_some]
    obtain ⟨hsh, hsb⟩ := shape_small op
    have hcomp : ∀ x : S40, wfX x → goodB x = true → lineT x = t.data.toList → op = x.f1.f0 ∧ (w :: r).length = (shapeOf op).size + 1 ∧ asm_parts.f (w :: r) (shapeOf op) op = some (tellR x true) := by
      intro x hw hg hl
      have h0 := no58 x hl
      obtain ⟨e1, e2, e3⟩ := line_words h0 hg
      have e4 := h3 _ _ (hl.symm.trans e1) e2 e3
      have hop := (good_regs h0 hg).1
      have hw0 : w.data.toList = (nameN x.f1.f0.toNat).data.toList := by
        rw [List.map_cons] at e4
        rw [(List.cons.inj e4).1, toB_data]
      have e5 := h6 x.f1.f0.toNat (by omega) hw0.symm
      have e6 : op = x.f1.f0 := by omega
      refine ⟨e6, ?_, ?_⟩
      · rw [e4, List.length_map, List.length_cons, words_len x h0 hg, e6]
      · rw [e4, e6]
        exact parts_of x hg hw h0
    obtain ⟨K, rfl⟩ : ∃ m, K = m + 1 := ⟨K - 1, by omega⟩
    have bad : ∃ r', (some ((⟨#[]⟩ : ByteArray), (0 : Int), (0 : Int), (0 : Int), (0 : Int), (0 : Int), (⟨#[]⟩ : ByteArray), false) : Option RS) = some r' ∧ Sound t r' := ⟨_, rfl, fun k => by cases k⟩
    by_cases hneg : op < 0
    · rw [if_pos hneg]
      simp only [asm_read.j0, if_true]
      refine ⟨_, rfl, And.intro (fun k => by cases k) (fun x hw hg hl => ?_)⟩
      have := (hcomp x hw hg hl).1
      have h0 := (good_regs (no58 x hl) hg).1
      omega
    · rw [if_neg hneg]
      rw [w64 _ (by omega) (by omega)]
      by_cases hlen : (w :: r).length = (shapeOf op).size + 1
      · have hb : (((w :: r).length : Int) != ((shapeOf op).size : Int) + 1) = false := by
          rw [bne_eq_false_iff_eq, hlen]
          omega
        rw [hb]
        simp only [asm_read.j0]
        rw [if_neg (by decide)]
        obtain ⟨s, h7, h8⟩ := parts_total (w :: r) (shapeOf op) op hlen h2 hsb _ (Nat.le_refl _)
        have h9 : asm_parts.f (w :: r) (shapeOf op) op = some s := h7
        rw [h9]
        simp only [Option.bind_some]
        have hend := endA_val t s h8
        refine ⟨_, hend, And.intro ?_ ?_⟩
        · intro hok
          have hb : (okOf s && (goodB (lineOf s) && (lineT (lineOf s) == t.data.toList))) = true := hok
          rw [Bool.and_eq_true, Bool.and_eq_true, beq_iff_eq] at hb
          exact ⟨⟨h8.2.1, by rw [lineOf_tell, h8.1]; decide, by have := h8.2.2; rw [lineOf_tell]; omega⟩, hb.2.1, hb.2.2⟩
        · intro x hw hg hl
          have := (hcomp x hw hg hl).2.2
          rw [h9] at this
          rw [Option.some.inj this]
          show tellR x (true && (goodB x && (lineT x == t.data.toList))) = _
          rw [hg, hl]
          simp
      · have hb : (((w :: r).length : Int) != ((shapeOf op).size : Int) + 1) = true := by
          rw [bne_iff_ne]
          omega
        rw [hb]
        simp only [asm_read.j0, if_true]
        exact ⟨_, rfl, And.intro (fun k => by cases k) (fun x hw hg hl => absurd (hcomp x hw hg hl).2.1 hlen)⟩
end Go.Proofs.YtbelnkdbghggmaaGreatDoor.X
namespace Go.Proofs.YtbelnkdbghggmaaGreatDoor.X
open Go.RowKit Go.Proofs.YtbelnkdbghggmaaGreatDoorW.PrintWords Go.Proofs.YtbelnkdbghggmaaGreatDoorW.PrintLast

set_option linter.unusedVariables false
set_option linter.unusedSimpArgs false

theorem eqA40 (d : Nat) (w : World) (x0 y0 : ByteArray) (x1 y1 : Int) (x2 y2 : Int) (x3 y3 : Int) (x4 y4 : Int) (x5 y5 : Int) (x6 y6 : ByteArray) :
    (Op.equalIn (d + 3) 40 (.agg #[.string x0, .int .i64 x1, .int .i64 x2, .int .i64 x3, .int .i64 x4, .int .i32 x5, .string x6]) (.agg #[.string y0, .int .i64 y1, .int .i64 y2, .int .i64 y3, .int .i64 y4, .int .i32 y5, .string y6])).run Tryz.prog w = .ok (x0.toList == y0.toList && ((x1 == y1 && (x2 == y2 && (x3 == y3 && (x4 == y4 && (x5 == y5))))) && (x6.toList == y6.toList))) w := by
  refine eqA_of Tryz.underlying40 (by kernel_rfl) ?_
  refine eqf_cons (by rfl) (by go_simp; rfl) (by go_simp; rfl) (by go_simp) ?_
  refine eqf_cons (by rfl) (by go_simp) (by go_simp) (eqA38 (d + 0) w _ _ _ _ _ _ _ _ _ _) ?_
  exact eqf_last (by rfl) (by go_simp; rfl) (by go_simp; rfl) (by go_simp)
end Go.Proofs.YtbelnkdbghggmaaGreatDoor.X
namespace Go.Proofs.YtbelnkdbghggmaaGreatDoor.X
open Go.RowKit Go.Proofs.YtbelnkdbghggmaaGreatDoorW.PrintWords Go.Proofs.YtbelnkdbghggmaaGreatDoorW.PrintLast

set_option linter.unusedVariables false
set_option linter.unusedSimpArgs false

/-! ### asm_Read: function 6 -/
def asm_Read.l0 : Nat → ByteArray → List (S40) → Int → Option ((List (S40)) × Int × Int)
  | 0, _, _, _ => none
  | k + 1, x0, x5, x6 => if x0.toList = ([] : List UInt8) then (some (x5, 0, 0)) else ((strings_Cut.f x0 (⟨#[10]⟩ : ByteArray)).bind fun bt102 => (if bt102.1.toList = ([] : List UInt8) then (asm_Read.l0 k bt102.2.1 x5 (wrap64 (x6 + 1))) else ((asm_read.f k bt102.1).bind fun bt105 => (if bt105.2.2.2.2.2.2.2 = true then (if x5.length < 1954687338268 then (asm_Read.l0 k bt102.2.1 (x5 ++ [(⟨bt105.1, (⟨bt105.2.1, bt105.2.2.1, bt105.2.2.2.1, bt105.2.2.2.2.1, bt105.2.2.2.2.2.1⟩ : S38), bt105.2.2.2.2.2.2.1⟩ : S40)]) (wrap64 (x6 + 1))) else (none)) else (some (([] : List (S40)), x6, 11))))))
def asm_Read.f (k : Nat) (a0 : ByteArray) : Option ((List (S40)) × Int × Int) := asm_Read.l0 k a0 ([] : List (S40)) 0
set_option maxHeartbeats 8000000 in
set_option maxRecDepth 100000 in
theorem asm_Read.calls (k : Nat) (a0 : ByteArray) (r1 : List (S40)) (r2 : Int) (r3 : Int) (w : World) (HTAB0 : Env w) (h : asm_Read.f k a0 = some (r1, r2, r3)) :
    Calls Tryz.prog 6 #[.string a0] w fun e w' => ∃ v0_ : Value, e = .returned (.tuple #[v0_, .int .i64 r2, .int .i64 r3]) ∧ Kd.R k40 40 w' w.heap.size (fun _ => True) v0_ r1 ∧ Below w.heap.size w w' := by
  have HTAB := Q4 HTAB0
  clear HTAB0
  have hu40 := Tryz.underlying40
  have HB := Q4 (Below.refl w.heap.size w)
  have H : (asm_Read.l0 k a0 ([] : List (S40)) 0) = some (r1, r2, r3) := h
  clear h
  have H' := Q4 H
  clear H
  go_enter Tryz.func6, Tryz.ntmps6
  go_wp2
  go_loopg [0, 5, 6] k (fun kq v0 v5 v6 w' => ∃ (x0_1 : ByteArray) (x5_1 : List (S40)) (x6_1 : Int), v0 = .string x0_1 ∧ v6 = .int .i64 x6_1 ∧ Aside0 (asm_Read.l0 kq x0_1 x5_1 x6_1 = some (r1, r2, r3)) ∧ Aside0 (kq ≤ k) ∧ Aside0 (Kd.R k40 40 w' w.heap.size (fun _ => True) v5 x5_1) ∧ Aside0 (Below w.heap.size w w'))
  case atStart => exact ⟨(a0), (([] : List (S40))), (0), (by first|rfl|(simp; done)|(simp [*]; done)), (by first|rfl|(simp; done)|(simp [*]; done)), H', ⟨Nat.le_refl _⟩, ⟨by first|exact Kd.R_nil _ _ _ _ _|exact Kd.N_nil _ _ _ _ _|exact Kd.V_nil _ _ _ _ _|exact Kd.Q_nil _ _ _ _ _|exact Kd.S_nil _ _ _ _ _⟩, ⟨by repeat (first|(with_reducible first|exact HB.out|apply Q8|apply Q5|apply Q9)|exact HB.out)⟩⟩
  case round =>
    clear H'
    obtain ⟨x0_1, x5_1, x6_1, rfl, rfl, HA, HK1, HO_5, HB⟩ := hrel
    cases gk with
    | zero => exact absurd HA.out (by simp [asm_Read.l0])
    | succ k1 =>
      have H := HA.out
      clear HA
      simp only [asm_Read.l0] at H
      by_cases c2 : x0_1.toList = ([] : List UInt8)
      · rw [if_pos c2] at H
        have c2b0 : (x0_1.toList == ([] : List UInt8)) = true := Qm c2
        have c2b1 : (x0_1.toList != ([] : List UInt8)) = false := Qh c2
        clear c2
        simp only [Option.some.injEq, Prod.mk.injEq] at H
        obtain ⟨rfl, rfl, rfl⟩ := H
        go_wp2
        go_ret3
        exact ⟨_, by first|rfl|(simp [errW_none, errW_some] <;> rfl)|(simp [*, errW_none, errW_some] <;> rfl), by (with_reducible repeat (first|apply Kd.R_alloc|apply Kd.R_drewN|apply Kd.R_drew)); exact HO_5.out, by repeat (first|(with_reducible first|exact HB.out|apply Q8|apply Q5|apply Q9)|exact HB.out)⟩
      · rw [if_neg c2] at H
        have c2b0 : (x0_1.toList == ([] : List UInt8)) = false := Qk c2
        have c2b1 : (x0_1.toList != ([] : List UInt8)) = true := Ql c2
        replace H := Qi H
        obtain ⟨⟨t102, t103, t104⟩, A30, H⟩ := H
        try dsimp only at H
        have A3 := Q4 A30
        clear A30
        by_cases c4 : t102.toList = ([] : List UInt8)
        · rw [if_pos c4] at H
          have c4b0 : (t102.toList == ([] : List UInt8)) = true := Qm c4
          have c4b1 : (t102.toList != ([] : List UInt8)) = false := Qh c4
          clear c4
          have H' := Q4 H
          clear H
          go_wp2_with (first|((with_reducible refine gate_callee (f := 14) rfl ?_); refine gL (some 18) Tryz.func14 #[.string x0_1, .string (⟨#[10]⟩ : ByteArray)] ?_; (with_reducible refine (strings_Cut.calls x0_1 (⟨#[10]⟩ : ByteArray) t102 t103 t104 _ (env_mono HTAB.out (by repeat (first|(with_reducible first|exact HB.out|apply Q8|apply Q5|apply Q9)|exact HB.out))) A3.out).mono ?_); rintro e w5 ⟨rfl, hb⟩; refine ⟨_, rfl, ?_⟩; have n0_ := Q4 (Kd.R_below (rK HO_5) hb); have n1_ := Q4 (Qg (by repeat (first|(with_reducible first|exact HB.out|apply Q8|apply Q5|apply Q9)|exact HB.out)) hb); clear HO_5; clear HB; have HO_5 := n0_; have HB := n1_; clear n0_ n1_;(try clear hb);(try clear hb2);(try clear hk);(try clear hi)))
          go_roundg k1
          case measure => have := HK1.out; omega
          case rel => exact ⟨(t103), (x5_1), (wrap64 (x6_1 + 1)), (by first|rfl|(simp; done)|(simp [*]; done)), (by first|rfl|(simp; done)|(simp [*]; done)), H', ⟨by have := HK1.out; omega⟩, ⟨by (with_reducible repeat (first|apply Kd.R_alloc|apply Kd.R_drewN|apply Kd.R_drew)); exact HO_5.out⟩, ⟨by repeat (first|(with_reducible first|exact HB.out|apply Q8|apply Q5|apply Q9)|exact HB.out)⟩⟩
        · rw [if_neg c4] at H
          have c4b0 : (t102.toList == ([] : List UInt8)) = false := Qk c4
          have c4b1 : (t102.toList != ([] : List UInt8)) = true := Ql c4
          replace H := Qi H
          obtain ⟨⟨t105, t106, t107, t108, t109, t110, t111, t112⟩, A60, H⟩ := H
          try dsimp only at H
          have A6 := Q4 A60
          clear A60
          by_cases c7 : t112 = true
          · subst c7
            rw [if_pos rfl] at H
            by_cases c8 : x5_1.length < 1954687338268
            · rw [if_pos c8] at H
              have LMc8 := Q4 c8
              clear c8
              obtain ⟨y114, hy114⟩ : ∃ y_ : List (S40), y_ = (x5_1 ++ [(⟨t105, (⟨t106, t107, t108, t109, t110⟩ : S38), t111⟩ : S40)]) := ⟨_, rfl⟩
              replace H : (asm_Read.l0 k1 t103 y114 (wrap64 (x6_1 + 1))) = some (r1, r2, r3) := by first|(rw [hy114]; with_reducible exact H)|(have H2_ := (Option.bind_some _ _).symm.trans H; rw [hy114]; with_reducible exact H2_)|(have H2_ := (Option.bind_some _ _).symm.trans H; with_reducible exact H2_) | with_reducible exact H|(rw [hy114]; exact H)|exact H
              have Ny114 := Q4 hy114
              clear hy114
              have H' := Q4 H
              clear H
              go_wp2_with (first|((with_reducible refine gate_callee (f := 14) rfl ?_); refine gL (some 18) Tryz.func14 #[.string x0_1, .string (⟨#[10]⟩ : ByteArray)] ?_; (with_reducible refine (strings_Cut.calls x0_1 (⟨#[10]⟩ : ByteArray) t102 t103 t104 _ (env_mono HTAB.out (by repeat (first|(with_reducible first|exact HB.out|apply Q8|apply Q5|apply Q9)|exact HB.out))) A3.out).mono ?_); rintro e w9 ⟨rfl, hb⟩; refine ⟨_, rfl, ?_⟩; have n0_ := Q4 (Kd.R_below (rK HO_5) hb); have n1_ := Q4 (Qg (by repeat (first|(with_reducible first|exact HB.out|apply Q8|apply Q5|apply Q9)|exact HB.out)) hb); clear HO_5; clear HB; have HO_5 := n0_; have HB := n1_; clear n0_ n1_;(try clear hb);(try clear hb2);(try clear hk);(try clear hi))|((with_reducible refine gate_callee (f := 15) rfl ?_); refine gL (some 27) Tryz.func15 #[.string t102] ?_; (with_reducible refine (asm_read.calls k1 t102 t105 t106 t107 t108 t109 t110 t111 true _ (env_mono HTAB.out (by repeat (first|(with_reducible first|exact HB.out|apply Q8|apply Q5|apply Q9)|exact HB.out))) A6.out).mono ?_); rintro e w10 ⟨rfl, hb⟩; refine ⟨_, rfl, ?_⟩; have n0_ := Q4 (Kd.R_below (rK HO_5) hb); have n1_ := Q4 (Qg (by repeat (first|(with_reducible first|exact HB.out|apply Q8|apply Q5|apply Q9)|exact HB.out)) hb); clear HO_5; clear HB; have HO_5 := n0_; have HB := n1_; clear n0_ n1_;(try clear hb);(try clear hb2);(try clear hk);(try clear hi))|((with_reducible refine gate_dst (N := 10) rfl ?_); refine box_event ?hg (N := 10) ?hd (cs := #[.string (⟨#[]⟩ : ByteArray), .int .i64 0, .int .i64 0, .int .i64 0, .int .i64 0, .int .i32 0, .string (⟨#[]⟩ : ByteArray)]) (t := 40) ?hr ?_; (case hd => rfl); (case hg => rfl); (case hr => first|(go_simp; done)|(go_simp; rfl)); intro gb113 hg w11 hbox hb; have n0_ := Q4 (Kd.R_below (Kd.R_elderB (rK HO_5) gb113 (Nat.le_of_eq hg.symm)) hb); have n1_ := Q4 (Qg (by repeat (first|(with_reducible first|exact HB.out|apply Q8|apply Q5|apply Q9)|exact HB.out)) hb); have n2_ := Q4 (hbox); have n3_ := Q4 ((by rw [hg]; exact bZ : w.heap.size ≤ gb113)); have n4_ := Q4 ((by rw [hg]; exact bZ : w.heap.size ≤ gb113)); clear HO_5; clear HB; have HO_5 := n0_; have HB := n1_; have BK113 := n2_; have GW113 := n3_; have GE113 := n4_; clear n0_ n1_ n2_ n3_ n4_; clear hb hbox hg; have hcz12_0 : w11.cell? ⟨gb113, 0, none⟩ = some (.string (⟨#[]⟩ : ByteArray)) := (Qe BK113.out 0).trans rfl; have hcz12_1 : w11.cell? ⟨gb113, 1, none⟩ = some (.int .i64 0) := (Qe BK113.out 1).trans rfl; have hcz12_2 : w11.cell? ⟨gb113, 2, none⟩ = some (.int .i64 0) := (Qe BK113.out 2).trans rfl; have hcz12_3 : w11.cell? ⟨gb113, 3, none⟩ = some (.int .i64 0) := (Qe BK113.out 3).trans rfl; have hcz12_4 : w11.cell? ⟨gb113, 4, none⟩ = some (.int .i64 0) := (Qe BK113.out 4).trans rfl; have hcz12_5 : w11.cell? ⟨gb113, 5, none⟩ = some (.int .i32 0) := (Qe BK113.out 5).trans rfl; have hcz12_6 : w11.cell? ⟨gb113, 6, none⟩ = some (.string (⟨#[]⟩ : ByteArray)) := (Qe BK113.out 6).trans rfl; have hfz12_0 := Qd BK113.out 0; have hfz12_1 := Qd BK113.out 1; have hfz12_2 := Qd BK113.out 2; have hfz12_3 := Qd BK113.out 3; have hfz12_4 := Qd BK113.out 4; have hfz12_5 := Qd BK113.out 5; have hfz12_6 := Qd BK113.out 6)|((with_reducible refine gate_builtin (b := .append) (xs := #[.tmp 33, .tmp 35]) rfl ?_); at_builtin; refine Kd.R_append k40 (w0 := w) w.heap.size rfl (.tmp 33) (.tmp 35) 23 40 (.agg #[(.string ⟨#[]⟩), (.int .i64 0), (.int .i64 0), (.int .i64 0), (.int .i64 0), (.int .i32 0), (.string ⟨#[]⟩)]) 72 rfl Tryz.underlying23 info40 rfl (by decide) (by omega) u5 x5_1 (⟨t105, (⟨t106, t107, t108, t109, t110⟩ : S38), t111⟩ : S40) [.string t105, .int .i64 t106, .int .i64 t107, .int .i64 t108, .int .i64 t109, .int .i32 t110, .string t111] (fun k_ => k_ ≠ gb113) (fun _ => False) rfl (by first|(go_simp; done)|(go_simp; rfl)) ?aP (fun _ hk => hk.elim) ?aF ?aO ?aB ?aS ?aL ?_; (case aP => exact k40_mkM _ _ _ (⟨t105, (⟨t106, t107, t108, t109, t110⟩ : S38), t111⟩ : S40)); (case aB => exact (by repeat (first|(with_reducible first|exact HB.out|apply Q8|apply Q5|apply Q9|refine Q6 ?_ GE113.out)|exact HB.out))); (case aF => exact (fun k_ hk => Kd.freshB (g := gb113) (o := .cells #[.string t105, .int .i64 t106, .int .i64 t107, .int .i64 t108, .int .i64 t109, .int .i32 t110, .string t111] 40 (0, 0)) (by (with_reducible repeat (first|refine Qa ?_ _|refine Qb ?_|refine Q7 ?_ _)); refine blk_put (cs := #[.string t105, .int .i64 t106, .int .i64 t107, .int .i64 t108, .int .i64 t109, .int .i32 t110, .string (⟨#[]⟩ : ByteArray)]) ?_ 6 _ rfl; (with_reducible repeat (first|refine Qa ?_ _|refine Qb ?_|refine Q7 ?_ _)); refine blk_put (cs := #[.string t105, .int .i64 t106, .int .i64 t107, .int .i64 t108, .int .i64 t109, .int .i32 0, .string (⟨#[]⟩ : ByteArray)]) ?_ 5 _ rfl; (with_reducible repeat (first|refine Qa ?_ _|refine Qb ?_|refine Q7 ?_ _)); refine blk_put (cs := #[.string t105, .int .i64 t106, .int .i64 t107, .int .i64 t108, .int .i64 0, .int .i32 0, .string (⟨#[]⟩ : ByteArray)]) ?_ 4 _ rfl; (with_reducible repeat (first|refine Qa ?_ _|refine Qb ?_|refine Q7 ?_ _)); refine blk_put (cs := #[.string t105, .int .i64 t106, .int .i64 t107, .int .i64 0, .int .i64 0, .int .i32 0, .string (⟨#[]⟩ : ByteArray)]) ?_ 3 _ rfl; (with_reducible repeat (first|refine Qa ?_ _|refine Qb ?_|refine Q7 ?_ _)); refine blk_put (cs := #[.string t105, .int .i64 t106, .int .i64 0, .int .i64 0, .int .i64 0, .int .i32 0, .string (⟨#[]⟩ : ByteArray)]) ?_ 2 _ rfl; (with_reducible repeat (first|refine Qa ?_ _|refine Qb ?_|refine Q7 ?_ _)); refine blk_put (cs := #[.string t105, .int .i64 0, .int .i64 0, .int .i64 0, .int .i64 0, .int .i32 0, .string (⟨#[]⟩ : ByteArray)]) ?_ 1 _ rfl; (with_reducible repeat (first|refine Qa ?_ _|refine Qb ?_|refine Q7 ?_ _)); refine blk_put (cs := #[.string (⟨#[]⟩ : ByteArray), .int .i64 0, .int .i64 0, .int .i64 0, .int .i64 0, .int .i32 0, .string (⟨#[]⟩ : ByteArray)]) ?_ 0 _ rfl; (with_reducible repeat (first|refine Qa ?_ _|refine Qb ?_|refine Q7 ?_ _)); exact BK113.out) k_ hk)); (case aO => exact (by (with_reducible repeat (first|apply Kd.R_alloc|apply Kd.R_drewN|apply Kd.R_drew)); exact Kd.R_mono (Kd.R_far (p := ⟨gb113, 6, none⟩) (Kd.R_far (p := ⟨gb113, 5, none⟩) (Kd.R_far (p := ⟨gb113, 4, none⟩) (Kd.R_far (p := ⟨gb113, 3, none⟩) (Kd.R_far (p := ⟨gb113, 2, none⟩) (Kd.R_far (p := ⟨gb113, 1, none⟩) (Kd.R_far (p := ⟨gb113, 0, none⟩) (Kd.R_mono HO_5.out (fun k_ hk => (⟨hk, hk.2⟩ : _ ∧ k_ ≠ gb113))) (fun _ hk => hk.2) (.string t105)) (fun _ hk => hk.2) (.int .i64 t106)) (fun _ hk => hk.2) (.int .i64 t107)) (fun _ hk => hk.2) (.int .i64 t108)) (fun _ hk => hk.2) (.int .i64 t109)) (fun _ hk => hk.2) (.int .i32 t110)) (fun _ hk => hk.2) (.string t111)) (fun _ hk => hk.1.2))); (case aS => exact (below_size (by repeat (first|(with_reducible first|exact HB.out|apply Q8|apply Q5|apply Q9|refine Q6 ?_ GE113.out)|exact HB.out)))); (case aL => have := LMc8.out; omega); intro v115 w13 ho hb hg hat; rw [← Ny114.out] at ho; have n0_ := Q4 (blk_grown (g := gb113) (o := .cells #[.string t105, .int .i64 t106, .int .i64 t107, .int .i64 t108, .int .i64 t109, .int .i32 t110, .string t111] 40 (0, 0)) (by (with_reducible repeat (first|refine Qa ?_ _|refine Qb ?_|refine Q7 ?_ _)); refine blk_put (cs := #[.string t105, .int .i64 t106, .int .i64 t107, .int .i64 t108, .int .i64 t109, .int .i32 t110, .string (⟨#[]⟩ : ByteArray)]) ?_ 6 _ rfl; (with_reducible repeat (first|refine Qa ?_ _|refine Qb ?_|refine Q7 ?_ _)); refine blk_put (cs := #[.string t105, .int .i64 t106, .int .i64 t107, .int .i64 t108, .int .i64 t109, .int .i32 0, .string (⟨#[]⟩ : ByteArray)]) ?_ 5 _ rfl; (with_reducible repeat (first|refine Qa ?_ _|refine Qb ?_|refine Q7 ?_ _)); refine blk_put (cs := #[.string t105, .int .i64 t106, .int .i64 t107, .int .i64 t108, .int .i64 0, .int .i32 0, .string (⟨#[]⟩ : ByteArray)]) ?_ 4 _ rfl; (with_reducible repeat (first|refine Qa ?_ _|refine Qb ?_|refine Q7 ?_ _)); refine blk_put (cs := #[.string t105, .int .i64 t106, .int .i64 t107, .int .i64 0, .int .i64 0, .int .i32 0, .string (⟨#[]⟩ : ByteArray)]) ?_ 3 _ rfl; (with_reducible repeat (first|refine Qa ?_ _|refine Qb ?_|refine Q7 ?_ _)); refine blk_put (cs := #[.string t105, .int .i64 t106, .int .i64 0, .int .i64 0, .int .i64 0, .int .i32 0, .string (⟨#[]⟩ : ByteArray)]) ?_ 2 _ rfl; (with_reducible repeat (first|refine Qa ?_ _|refine Qb ?_|refine Q7 ?_ _)); refine blk_put (cs := #[.string t105, .int .i64 0, .int .i64 0, .int .i64 0, .int .i64 0, .int .i32 0, .string (⟨#[]⟩ : ByteArray)]) ?_ 1 _ rfl; (with_reducible repeat (first|refine Qa ?_ _|refine Qb ?_|refine Q7 ?_ _)); refine blk_put (cs := #[.string (⟨#[]⟩ : ByteArray), .int .i64 0, .int .i64 0, .int .i64 0, .int .i64 0, .int .i32 0, .string (⟨#[]⟩ : ByteArray)]) ?_ 0 _ rfl; (with_reducible repeat (first|refine Qa ?_ _|refine Qb ?_|refine Q7 ?_ _)); exact BK113.out) hg (Kd.R_away HO_5.out (fun _ hk => hk.2))); have n1_ := Q4 (hb); have n2_ := Q4 (ho); clear BK113; clear HB; clear HO_5; have BK113 := n0_; have HB := n1_; have HO116 := n2_; clear n0_ n1_ n2_; clear ho hb hg hat))
              go_roundg k1
              case measure => have := HK1.out; omega
              case rel => exact ⟨(t103), (y114), (wrap64 (x6_1 + 1)), (by first|rfl|(simp; done)|(simp [*]; done)), (by first|rfl|(simp; done)|(simp [*]; done)), H', ⟨by have := HK1.out; omega⟩, ⟨by (with_reducible repeat (first|apply Kd.R_alloc|apply Kd.R_drewN|apply Kd.R_drew)); exact Kd.R_mono HO116.out (fun _ hk => trivial)⟩, ⟨by repeat (first|(with_reducible first|exact HB.out|apply Q8|apply Q5|apply Q9|refine Q6 ?_ GE113.out)|exact HB.out)⟩⟩
            · rw [if_neg c8] at H
              exact absurd H (by simp)
          · replace c7 := Bool.eq_false_iff.mpr c7
            subst c7
            rw [if_neg (show ¬ (false = true) by decide)] at H
            simp only [Option.some.injEq, Prod.mk.injEq] at H
            obtain ⟨rfl, rfl, rfl⟩ := H
            go_wp2_with (first|((with_reducible refine gate_callee (f := 14) rfl ?_); refine gL (some 18) Tryz.func14 #[.string x0_1, .string (⟨#[10]⟩ : ByteArray)] ?_; (with_reducible refine (strings_Cut.calls x0_1 (⟨#[10]⟩ : ByteArray) t102 t103 t104 _ (env_mono HTAB.out (by repeat (first|(with_reducible first|exact HB.out|apply Q8|apply Q5|apply Q9)|exact HB.out))) A3.out).mono ?_); rintro e w14 ⟨rfl, hb⟩; refine ⟨_, rfl, ?_⟩; have n0_ := Q4 (Kd.R_below (rK HO_5) hb); have n1_ := Q4 (Qg (by repeat (first|(with_reducible first|exact HB.out|apply Q8|apply Q5|apply Q9)|exact HB.out)) hb); clear HO_5; clear HB; have HO_5 := n0_; have HB := n1_; clear n0_ n1_;(try clear hb);(try clear hb2);(try clear hk);(try clear hi))|((with_reducible refine gate_callee (f := 15) rfl ?_); refine gL (some 27) Tryz.func15 #[.string t102] ?_; (with_reducible refine (asm_read.calls k1 t102 t105 t106 t107 t108 t109 t110 t111 false _ (env_mono HTAB.out (by repeat (first|(with_reducible first|exact HB.out|apply Q8|apply Q5|apply Q9)|exact HB.out))) A6.out).mono ?_); rintro e w15 ⟨rfl, hb⟩; refine ⟨_, rfl, ?_⟩; have n0_ := Q4 (Kd.R_below (rK HO_5) hb); have n1_ := Q4 (Qg (by repeat (first|(with_reducible first|exact HB.out|apply Q8|apply Q5|apply Q9)|exact HB.out)) hb); clear HO_5; clear HB; have HO_5 := n0_; have HB := n1_; clear n0_ n1_;(try clear hb);(try clear hb2);(try clear hk);(try clear hi))|((with_reducible refine gate_dst (N := 10) rfl ?_); refine box_event ?hg (N := 10) ?hd (cs := #[.string (⟨#[]⟩ : ByteArray), .int .i64 0, .int .i64 0, .int .i64 0, .int .i64 0, .int .i32 0, .string (⟨#[]⟩ : ByteArray)]) (t := 40) ?hr ?_; (case hd => rfl); (case hg => rfl); (case hr => first|(go_simp; done)|(go_simp; rfl)); intro gb113 hg w16 hbox hb; have n0_ := Q4 (Kd.R_below (Kd.R_elderB (rK HO_5) gb113 (Nat.le_of_eq hg.symm)) hb); have n1_ := Q4 (Qg (by repeat (first|(with_reducible first|exact HB.out|apply Q8|apply Q5|apply Q9)|exact HB.out)) hb); have n2_ := Q4 (hbox); have n3_ := Q4 ((by rw [hg]; exact bZ : w.heap.size ≤ gb113)); have n4_ := Q4 ((by rw [hg]; exact bZ : w.heap.size ≤ gb113)); clear HO_5; clear HB; have HO_5 := n0_; have HB := n1_; have BK113 := n2_; have GW113 := n3_; have GE113 := n4_; clear n0_ n1_ n2_ n3_ n4_; clear hb hbox hg; have hcz17_0 : w16.cell? ⟨gb113, 0, none⟩ = some (.string (⟨#[]⟩ : ByteArray)) := (Qe BK113.out 0).trans rfl; have hcz17_1 : w16.cell? ⟨gb113, 1, none⟩ = some (.int .i64 0) := (Qe BK113.out 1).trans rfl; have hcz17_2 : w16.cell? ⟨gb113, 2, none⟩ = some (.int .i64 0) := (Qe BK113.out 2).trans rfl; have hcz17_3 : w16.cell? ⟨gb113, 3, none⟩ = some (.int .i64 0) := (Qe BK113.out 3).trans rfl; have hcz17_4 : w16.cell? ⟨gb113, 4, none⟩ = some (.int .i64 0) := (Qe BK113.out 4).trans rfl; have hcz17_5 : w16.cell? ⟨gb113, 5, none⟩ = some (.int .i32 0) := (Qe BK113.out 5).trans rfl; have hcz17_6 : w16.cell? ⟨gb113, 6, none⟩ = some (.string (⟨#[]⟩ : ByteArray)) := (Qe BK113.out 6).trans rfl; have hfz17_0 := Qd BK113.out 0; have hfz17_1 := Qd BK113.out 1; have hfz17_2 := Qd BK113.out 2; have hfz17_3 := Qd BK113.out 3; have hfz17_4 := Qd BK113.out 4; have hfz17_5 := Qd BK113.out 5; have hfz17_6 := Qd BK113.out 6))
            go_ret3
            exact ⟨_, by first|rfl|(simp [errW_none, errW_some] <;> rfl)|(simp [*, errW_none, errW_some] <;> rfl), by first|exact Kd.R_nil _ _ _ _ _|exact Kd.N_nil _ _ _ _ _|exact Kd.V_nil _ _ _ _ _|exact Kd.Q_nil _ _ _ _ _|exact Kd.S_nil _ _ _ _ _, by repeat (first|(with_reducible first|exact HB.out|apply Q8|apply Q5|apply Q9|refine Q6 ?_ GE113.out)|exact HB.out)⟩

/-! ### curtilagelaw10_awake: function 5 -/
def curtilagelaw10_awake.f (k : Nat)  : Option (Bool) := (asm_Put.f (([(⟨(⟨#[97]⟩ : ByteArray), (⟨0, 0, 0, 0, 0⟩ : S38), (⟨#[]⟩ : ByteArray)⟩ : S40), (⟨(⟨#[]⟩ : ByteArray), (⟨18, 0, 0, 0, 0⟩ : S38), (⟨#[97]⟩ : ByteArray)⟩ : S40)] : List (S40)))).bind fun bt120 => ((asm_Put.f (([(⟨(⟨#[]⟩ : ByteArray), (⟨18, 0, 0, 0, 0⟩ : S38), (⟨#[98]⟩ : ByteArray)⟩ : S40)] : List (S40)))).bind fun bt128 => ((asm_Read.f k (⟨#[97, 58]⟩ : ByteArray)).bind fun bt133 => (if bt120.2.2 = 0 then (if (bt120.1.length : Int) = 1 then ((asm_List.f bt120.1).bind fun t138 => (if t138.toList = ([106, 109, 112, 32, 45, 49, 10] : List UInt8) then (if bt128.2.1 = 0 then (if bt128.2.2 = 1 then (if bt133.2.2 = 0 then (if (bt133.1.length : Int) = 1 then (if 0 < (bt133.1.length : Int) then (some (((rd_T40 bt133.1 0).f0).toList == ([97] : List UInt8))) else (none)) else (some false)) else (some false)) else (some false)) else (some false)) else (some false))) else (some false)) else (some false))))
set_option maxHeartbeats 8000000 in
set_option maxRecDepth 100000 in
theorem curtilagelaw10_awake.calls (k : Nat)  (w : World) (HTAB0 : Env w) (h : curtilagelaw10_awake.f k  = some true) :
  Calls Tryz.prog 5 #[] w fun e w' => e = .returned (.bool true) ∧ Below w.heap.size w w' := by
 have HTAB := Q4 HTAB0
 clear HTAB0
 have hu40 := Tryz.underlying40
 have hu38 := Tryz.underlying38
 have HB := Q4 (Below.refl w.heap.size w)
 have H := h
 unfold curtilagelaw10_awake.f at H
 clear h
 obtain ⟨y117, hy117⟩ : ∃ y_ : List (S40), y_ = (([(⟨(⟨#[97]⟩ : ByteArray), (⟨0, 0, 0, 0, 0⟩ : S38), (⟨#[]⟩ : ByteArray)⟩ : S40), (⟨(⟨#[]⟩ : ByteArray), (⟨18, 0, 0, 0, 0⟩ : S38), (⟨#[97]⟩ : ByteArray)⟩ : S40)] : List (S40))) := ⟨_, rfl⟩
 replace H : ((asm_Put.f y117).bind fun bt120 => ((asm_Put.f (([(⟨(⟨#[]⟩ : ByteArray), (⟨18, 0, 0, 0, 0⟩ : S38), (⟨#[98]⟩ : ByteArray)⟩ : S40)] : List (S40)))).bind fun bt128 => ((asm_Read.f k (⟨#[97, 58]⟩ : ByteArray)).bind fun bt133 => (if bt120.2.2 = 0 then (if (bt120.1.length : Int) = 1 then ((asm_List.f bt120.1).bind fun t138 => (if t138.toList = ([106, 109, 112, 32, 45, 49, 10] : List UInt8) then (if bt128.2.1 = 0 then (if bt128.2.2 = 1 then (if bt133.2.2 = 0 then (if (bt133.1.length : Int) = 1 then (if 0 < (bt133.1.length : Int) then (some (((rd_T40 bt133.1 0).f0).toList == ([97] : List UInt8))) else (none)) else (some false)) else (some false)) else (some false)) else (some false)) else (some false))) else (some false)) else (some false))))) = some true := by first|(rw [hy117]; with_reducible exact H)|(have H2_ := (Option.bind_some _ _).symm.trans H; rw [hy117]; with_reducible exact H2_)|(have H2_ := (Option.bind_some _ _).symm.trans H; with_reducible exact H2_) | with_reducible exact H|(rw [hy117]; exact H)|exact H
 have Ny117 := Q4 hy117
 clear hy117
 replace H := Qi H
 obtain ⟨⟨t120, t121, t122⟩, A10, H⟩ := H
 try dsimp only at H
 have A1 := Q4 A10
 clear A10
 obtain ⟨y125, hy125⟩ : ∃ y_ : List (S40), y_ = (([(⟨(⟨#[]⟩ : ByteArray), (⟨18, 0, 0, 0, 0⟩ : S38), (⟨#[98]⟩ : ByteArray)⟩ : S40)] : List (S40))) := ⟨_, rfl⟩
 replace H : ((asm_Put.f y125).bind fun bt128 => ((asm_Read.f k (⟨#[97, 58]⟩ : ByteArray)).bind fun bt133 => (if t122 = 0 then (if (t120.length : Int) = 1 then ((asm_List.f t120).bind fun t138 => (if t138.toList = ([106, 109, 112, 32, 45, 49, 10] : List UInt8) then (if bt128.2.1 = 0 then (if bt128.2.2 = 1 then (if bt133.2.2 = 0 then (if (bt133.1.length : Int) = 1 then (if 0 < (bt133.1.length : Int) then (some (((rd_T40 bt133.1 0).f0).toList == ([97] : List UInt8))) else (none)) else (some false)) else (some false)) else (some false)) else (some false)) else (some false))) else (some false)) else (some false)))) = some true := by first|(rw [hy125]; with_reducible exact H)|(have H2_ := (Option.bind_some _ _).symm.trans H; rw [hy125]; with_reducible exact H2_)|(have H2_ := (Option.bind_some _ _).symm.trans H; with_reducible exact H2_) | with_reducible exact H|(rw [hy125]; exact H)|exact H
 have Ny125 := Q4 hy125
 clear hy125
 replace H := Qi H
 obtain ⟨⟨t128, t129, t130⟩, A20, H⟩ := H
 try dsimp only at H
 have A2 := Q4 A20
 clear A20
 replace H := Qi H
 obtain ⟨⟨t133, t134, t135⟩, A30, H⟩ := H
 try dsimp only at H
 have A3 := Q4 A30
 clear A30
 by_cases c4 : t122 = 0
 ·rw [if_pos c4] at H
  have c4b0 : (t122 == 0) = true := Qm c4
  have c4b1 : (t122 != 0) = false := Qh c4
  clear c4
  by_cases c5 : (t120.length : Int) = 1
  ·rw [if_pos c5] at H
   have c5b0 : ((t120.length : Int) == 1) = true := Qm c5
   have c5b1 : ((t120.length : Int) != 1) = false := Qh c5
   clear c5
   replace H := Qi H
   obtain ⟨t138, A60, H⟩ := H
   try dsimp only at H
   have A6 := Q4 A60
   clear A60
   by_cases c7 : t138.toList = ([106, 109, 112, 32, 45, 49, 10] : List UInt8)
   ·rw [if_pos c7] at H
    have c7b0 : (t138.toList == ([106, 109, 112, 32, 45, 49, 10] : List UInt8)) = true := Qm c7
    have c7b1 : (t138.toList != ([106, 109, 112, 32, 45, 49, 10] : List UInt8)) = false := Qh c7
    clear c7
    by_cases c8 : t129 = 0
    ·rw [if_pos c8] at H
     have c8b0 : (t129 == 0) = true := Qm c8
     have c8b1 : (t129 != 0) = false := Qh c8
     clear c8
     by_cases c9 : t130 = 1
     ·rw [if_pos c9] at H
      have c9b0 : (t130 == 1) = true := Qm c9
      have c9b1 : (t130 != 1) = false := Qh c9
      clear c9
      by_cases c10 : t135 = 0
      ·rw [if_pos c10] at H
       have c10b0 : (t135 == 0) = true := Qm c10
       have c10b1 : (t135 != 0) = false := Qh c10
       clear c10
       by_cases c11 : (t133.length : Int) = 1
       ·rw [if_pos c11] at H
        have c11b0 : ((t133.length : Int) == 1) = true := Qm c11
        have c11b1 : ((t133.length : Int) != 1) = false := Qh c11
        clear c11
        by_cases c12 : 0 < (t133.length : Int)
        ·rw [if_pos c12] at H
         have c12b0 : decide (0 < (t133.length : Int)) = true := Qj c12
         have c12b1 : decide (0 < t133.length) = true := Qj (by omega)
         clear c12
         have HE_ := Qn H; rw [← HE_]; clear HE_ H
         go_enter Tryz.func5, Tryz.ntmps5
         go_wp2_with (first|((with_reducible refine gate_dst (N := 14) rfl ?_); (try (refine gate_guard (by rfl) ?_; dsimp only)); refine Kd.R_lit k40 _ 40 ?hg (N := 14) ?hd (xs := ([(⟨(⟨#[97]⟩ : ByteArray), (⟨0, 0, 0, 0, 0⟩ : S38), (⟨#[]⟩ : ByteArray)⟩ : S40), (⟨(⟨#[]⟩ : ByteArray), (⟨18, 0, 0, 0, 0⟩ : S38), (⟨#[97]⟩ : ByteArray)⟩ : S40)] : List (S40))) (inner := [.string (⟨#[97]⟩ : ByteArray), .int .i64 0, .int .i64 0, .int .i64 0, .int .i64 0, .int .i32 0, .string (⟨#[]⟩ : ByteArray), .string (⟨#[]⟩ : ByteArray), .int .i64 18, .int .i64 0, .int .i64 0, .int .i64 0, .int .i32 0, .string (⟨#[97]⟩ : ByteArray)]) (ok := fun _ => True) (okp := fun _ => True) ?hr ?hp (fun _ hk => hk) trivial (Below.refl _ _) (Nat.le_refl _) (by simp) ?_; (case hd => rfl); (case hg => rfl); (case hr => first|(go_simp; done)|(go_simp; rfl)); (case hp => exact (Reps.c7 (show Kd.M k40 _ _ _ (⟨(⟨#[97]⟩ : ByteArray), (⟨0, 0, 0, 0, 0⟩ : S38), (⟨#[]⟩ : ByteArray)⟩ : S40) [.string (⟨#[97]⟩ : ByteArray), .int .i64 0, .int .i64 0, .int .i64 0, .int .i64 0, .int .i32 0, .string (⟨#[]⟩ : ByteArray)] from (k40_mkM _ _ _ (⟨(⟨#[97]⟩ : ByteArray), (⟨0, 0, 0, 0, 0⟩ : S38), (⟨#[]⟩ : ByteArray)⟩ : S40) )) (Reps.c7 (show Kd.M k40 _ _ _ (⟨(⟨#[]⟩ : ByteArray), (⟨18, 0, 0, 0, 0⟩ : S38), (⟨#[97]⟩ : ByteArray)⟩ : S40) [.string (⟨#[]⟩ : ByteArray), .int .i64 18, .int .i64 0, .int .i64 0, .int .i64 0, .int .i32 0, .string (⟨#[97]⟩ : ByteArray)] from (k40_mkM _ _ _ (⟨(⟨#[]⟩ : ByteArray), (⟨18, 0, 0, 0, 0⟩ : S38), (⟨#[97]⟩ : ByteArray)⟩ : S40) )) (Reps.none _ _)))); intro v118 w13 ho14 hb hg_ hnew_; clear hg_ hnew_; (first | rw [← Ny117.out] at ho14|(simp only [Int.reduceToNat] at ho14; rw [← Ny117.out] at ho14)); have n0_ := Q4 (Kd.R_lower ho14 bZ); have n1_ := Q4 (Qg (by repeat (first|(with_reducible first|exact HB.out|apply Q8|apply Q5|apply Q9)|exact HB.out)) hb); clear HB; have HO119 := n0_; have HB := n1_; clear n0_ n1_; clear hb ho14; obtain ⟨Ao15, co15, eo15⟩ := Kd.R_slice HO119.out; subst eo15)|((with_reducible refine gate_callee (f := 12) rfl ?_); refine gL (some 15) Tryz.func12 #[.slice Ao15 y117.length co15] ?_; (with_reducible refine (asm_Put.calls _ _ y117 t120 t121 t122 _ ?side1 ?side2 A1.out).mono ?_); (case side1 => repeat (first|exact (Kd.R_reads' HO119.out).2.2|(with_reducible refine Kd.C_alloc ?_ _)|(with_reducible refine Kd.C_drewN ?_ _)|(with_reducible refine Kd.C_drew ?_))); (case side2 => exact (Kd.R_reads' HO119.out).2.1); rintro e w16 ⟨v123, rfl, ho0, hb⟩; refine ⟨_, rfl, ?_⟩; have n0_ := Q4 (Kd.R_below (rK HO119) hb); have n1_ := Q4 (Kd.R_lower ho0 bZ); have n2_ := Q4 (Qg (by repeat (first|(with_reducible first|exact HB.out|apply Q8|apply Q5|apply Q9)|exact HB.out)) hb); clear HO119; clear HB; have HO119 := n0_; have HO124 := n1_; have HB := n2_; clear n0_ n1_ n2_;(try clear hb);(try clear hb2);(try clear hk);(try clear hi);(try clear ho0))|((with_reducible refine gate_dst (N := 22) rfl ?_); (try (refine gate_guard (by rfl) ?_; dsimp only)); refine Kd.R_lit k40 _ 40 ?hg (N := 22) ?hd (xs := ([(⟨(⟨#[]⟩ : ByteArray), (⟨18, 0, 0, 0, 0⟩ : S38), (⟨#[98]⟩ : ByteArray)⟩ : S40)] : List (S40))) (inner := [.string (⟨#[]⟩ : ByteArray), .int .i64 18, .int .i64 0, .int .i64 0, .int .i64 0, .int .i32 0, .string (⟨#[98]⟩ : ByteArray)]) (ok := fun _ => True) (okp := fun _ => True) ?hr ?hp (fun _ hk => hk) trivial (Below.refl _ _) (Nat.le_refl _) (by simp) ?_; (case hd => rfl); (case hg => rfl); (case hr => first|(go_simp; done)|(go_simp; rfl)); (case hp => exact (Reps.c7 (show Kd.M k40 _ _ _ (⟨(⟨#[]⟩ : ByteArray), (⟨18, 0, 0, 0, 0⟩ : S38), (⟨#[98]⟩ : ByteArray)⟩ : S40) [.string (⟨#[]⟩ : ByteArray), .int .i64 18, .int .i64 0, .int .i64 0, .int .i64 0, .int .i32 0, .string (⟨#[98]⟩ : ByteArray)] from (k40_mkM _ _ _ (⟨(⟨#[]⟩ : ByteArray), (⟨18, 0, 0, 0, 0⟩ : S38), (⟨#[98]⟩ : ByteArray)⟩ : S40) )) (Reps.none _ _))); intro v126 w17 ho18 hb hg_ hnew_; clear hg_ hnew_; (first | rw [← Ny125.out] at ho18|(simp only [Int.reduceToNat] at ho18; rw [← Ny125.out] at ho18)); have n0_ := Q4 (Kd.R_elder' (rK HO119) (Kd.R_base ho18) hb); have n1_ := Q4 (Kd.R_below (rK HO124) hb); have n2_ := Q4 (Kd.R_lower (Kd.R_new' ho18 (Kd.R_lt (rK HO119))) bZ); have n3_ := Q4 (Qg (by repeat (first|(with_reducible first|exact HB.out|apply Q8|apply Q5|apply Q9)|exact HB.out)) hb); clear HO119; clear HO124; clear HB; have HO119 := n0_; have HO124 := n1_; have HO127 := n2_; have HB := n3_; clear n0_ n1_ n2_ n3_; clear hb ho18; obtain ⟨Ao19, co19, eo19⟩ := Kd.R_slice HO127.out; subst eo19)|((with_reducible refine gate_callee (f := 12) rfl ?_); refine gL (some 23) Tryz.func12 #[.slice Ao19 y125.length co19] ?_; (with_reducible refine (asm_Put.calls _ _ y125 t128 t129 t130 _ ?side1 ?side2 A2.out).mono ?_); (case side1 => repeat (first|exact (Kd.R_reads' HO127.out).2.2|(with_reducible refine Kd.C_alloc ?_ _)|(with_reducible refine Kd.C_drewN ?_ _)|(with_reducible refine Kd.C_drew ?_))); (case side2 => exact (Kd.R_reads' HO127.out).2.1); rintro e w20 ⟨v131, rfl, ho0, hb⟩; refine ⟨_, rfl, ?_⟩; have n0_ := Q4 (Kd.R_below (rK HO119) hb); have n1_ := Q4 (Kd.R_elder' (rK HO124) (Kd.R_base ho0) hb); have n2_ := Q4 (Kd.R_below (rK HO127) hb); have n3_ := Q4 (Kd.R_lower (Kd.R_new' ho0 (Kd.R_lt (rK HO124))) bZ); have n4_ := Q4 (Qg (by repeat (first|(with_reducible first|exact HB.out|apply Q8|apply Q5|apply Q9)|exact HB.out)) hb); clear HO119; clear HO124; clear HO127; clear HB; have HO119 := n0_; have HO124 := n1_; have HO127 := n2_; have HO132 := n3_; have HB := n4_; clear n0_ n1_ n2_ n3_ n4_;(try clear hb);(try clear hb2);(try clear hk);(try clear hi);(try clear ho0))|((with_reducible refine gate_callee (f := 6) rfl ?_); refine gL (some 28) Tryz.func6 #[.string (⟨#[97, 58]⟩ : ByteArray)] ?_; (with_reducible refine (asm_Read.calls k (⟨#[97, 58]⟩ : ByteArray) t133 t134 t135 _ (env_mono HTAB.out (by repeat (first|(with_reducible first|exact HB.out|apply Q8|apply Q5|apply Q9)|exact HB.out))) A3.out).mono ?_); rintro e w21 ⟨v136, rfl, ho0, hb⟩; refine ⟨_, rfl, ?_⟩; have n0_ := Q4 (Kd.R_elder' (rK HO119) (Kd.R_base ho0) hb); have n1_ := Q4 (Kd.R_below (rK HO124) hb); have n2_ := Q4 (Kd.R_elder' (rK HO127) (Kd.R_base ho0) hb); have n3_ := Q4 (Kd.R_below (rK HO132) hb); have n4_ := Q4 (Kd.R_lower (Kd.R_new' (Kd.R_new' ho0 (Kd.R_lt (rK HO119))) (Kd.R_lt (rK HO127))) bZ); have n5_ := Q4 (Qg (by repeat (first|(with_reducible first|exact HB.out|apply Q8|apply Q5|apply Q9)|exact HB.out)) hb); clear HO119; clear HO124; clear HO127; clear HO132; clear HB; have HO119 := n0_; have HO124 := n1_; have HO127 := n2_; have HO132 := n3_; have HO137 := n4_; have HB := n5_; clear n0_ n1_ n2_ n3_ n4_ n5_;(try clear hb);(try clear hb2);(try clear hk);(try clear hi);(try clear ho0); obtain ⟨Ao22, co22, eo22⟩ := Kd.R_slice HO124.out; subst eo22)|(go_at_call 13; (with_reducible refine (asm_List.calls _ _ t120 t138 _ (env_mono HTAB.out (by repeat (first|(with_reducible first|exact HB.out|apply Q8|apply Q5|apply Q9)|exact HB.out))) ?side1 ?side2 A6.out).mono ?_); (case side1 => repeat (first|exact (Kd.R_reads' HO124.out).2.2|(with_reducible refine Kd.C_alloc ?_ _)|(with_reducible refine Kd.C_drewN ?_ _)|(with_reducible refine Kd.C_drew ?_))); (case side2 => exact (Kd.R_reads' HO124.out).2.1); rintro e w23 ⟨rfl, hb⟩; have n0_ := Q4 (Kd.R_below (rK HO119) hb); have n1_ := Q4 (Kd.R_below (rK HO124) hb); have n2_ := Q4 (Kd.R_below (rK HO127) hb); have n3_ := Q4 (Kd.R_below (rK HO132) hb); have n4_ := Q4 (Kd.R_below (rK HO137) hb); have n5_ := Q4 (Qg (by repeat (first|(with_reducible first|exact HB.out|apply Q8|apply Q5|apply Q9)|exact HB.out)) hb); clear HO119; clear HO124; clear HO127; clear HO132; clear HO137; clear HB; have HO119 := n0_; have HO124 := n1_; have HO127 := n2_; have HO132 := n3_; have HO137 := n4_; have HB := n5_; clear n0_ n1_ n2_ n3_ n4_ n5_;(try clear hb);(try clear hb2);(try clear hk);(try clear hi); obtain ⟨Ao24, co24, eo24⟩ := Kd.R_slice HO137.out; subst eo24; have p139 : 0 ≤ (0 : Int) := (by omega); have q139 : 0 < (t133.length : Int) := Qc (by first|(with_reducible assumption)|assumption); obtain ⟨ad139, e139, hx139_0, hx139_1, hx139_2, hx139_3, hx139_4, hx139_5, hx139_6⟩ := at_T40 (Kd.R_reads' HO137.out).2.2 0 p139 q139; cases e139; have qi139 : (0 < t133.length) = True := eq_true (by omega); (try rw [show ((0 : Int)).toNat = 0 from rfl] at hx139_0); (try rw [show 0 * 7 = 0 from rfl] at hx139_0); (try rw [Addr.add_zero'] at hx139_0); (try rw [show ((0 : Int)).toNat = 0 from rfl] at hx139_1); (try rw [show 0 * 7 = 0 from rfl] at hx139_1); (try rw [Addr.add_zero'] at hx139_1); (try rw [show ((0 : Int)).toNat = 0 from rfl] at hx139_2); (try rw [show 0 * 7 = 0 from rfl] at hx139_2); (try rw [Addr.add_zero'] at hx139_2); (try rw [show ((0 : Int)).toNat = 0 from rfl] at hx139_3); (try rw [show 0 * 7 = 0 from rfl] at hx139_3); (try rw [Addr.add_zero'] at hx139_3); (try rw [show ((0 : Int)).toNat = 0 from rfl] at hx139_4); (try rw [show 0 * 7 = 0 from rfl] at hx139_4); (try rw [Addr.add_zero'] at hx139_4); (try rw [show ((0 : Int)).toNat = 0 from rfl] at hx139_5); (try rw [show 0 * 7 = 0 from rfl] at hx139_5); (try rw [Addr.add_zero'] at hx139_5); (try rw [show ((0 : Int)).toNat = 0 from rfl] at hx139_6); (try rw [show 0 * 7 = 0 from rfl] at hx139_6); (try rw [Addr.add_zero'] at hx139_6); replace p139 := eq_true p139; replace q139 := eq_true q139))
         go_ret
         exact ⟨by first|rfl|(simp [errW_none, errW_some] <;> rfl)|(simp [*, errW_none, errW_some] <;> rfl), by repeat (first|(with_reducible first|exact HB.out|apply Q8|apply Q5|apply Q9)|exact HB.out)⟩
        ·rw [if_neg c12] at H
         exact absurd H (by simp)
       ·rw [if_neg c11] at H
        have c11b0 : ((t133.length : Int) == 1) = false := Qk c11
        have c11b1 : ((t133.length : Int) != 1) = true := Ql c11
        exact absurd H (by first | decide)
      ·rw [if_neg c10] at H
       have c10b0 : (t135 == 0) = false := Qk c10
       have c10b1 : (t135 != 0) = true := Ql c10
       exact absurd H (by first | decide)
     ·rw [if_neg c9] at H
      have c9b0 : (t130 == 1) = false := Qk c9
      have c9b1 : (t130 != 1) = true := Ql c9
      exact absurd H (by first | decide)
    ·rw [if_neg c8] at H
     have c8b0 : (t129 == 0) = false := Qk c8
     have c8b1 : (t129 != 0) = true := Ql c8
     exact absurd H (by first | decide)
   ·rw [if_neg c7] at H
    have c7b0 : (t138.toList == ([106, 109, 112, 32, 45, 49, 10] : List UInt8)) = false := Qk c7
    have c7b1 : (t138.toList != ([106, 109, 112, 32, 45, 49, 10] : List UInt8)) = true := Ql c7
    exact absurd H (by first | decide)
  ·rw [if_neg c5] at H
   have c5b0 : ((t120.length : Int) == 1) = false := Qk c5
   have c5b1 : ((t120.length : Int) != 1) = true := Ql c5
   exact absurd H (by first | decide)
 ·rw [if_neg c4] at H
  have c4b0 : (t122 == 0) = false := Qk c4
  have c4b1 : (t122 != 0) = true := Ql c4
  exact absurd H (by first | decide)

end Go.Proofs.YtbelnkdbghggmaaGreatDoor.X
namespace Go.Proofs.YtbelnkdbghggmaaGreatDoor.X
open Go.RowKit Go.Proofs.YtbelnkdbghggmaaGreatDoorW.PrintWords Go.Proofs.YtbelnkdbghggmaaGreatDoorW.PrintLast

set_option linter.unusedVariables false
set_option linter.unusedSimpArgs false

attribute [local go_sem high] eqA40
/-! ### curtilageref10_Read: function 7 -/

/-! ### curtilageref10_Same: function 8 -/
def curtilageref10_Same.l0 : Nat → List (S40) → List (S40) → Int → Option (Bool)
  | 0, _, _, _ => none
  | k + 1, x0, x1, x5 => if x5 < (x0.length : Int) then (if 0 ≤ x5 then (if x5 < (x1.length : Int) then (if (!((((rd_T40 x0 x5).f0).toList) == (((rd_T40 x1 x5).f0).toList)) || ((!(((rd_T40 x0 x5).f1.f0) == ((rd_T40 x1 x5).f1.f0)) || (!(((rd_T40 x0 x5).f1.f1) == ((rd_T40 x1 x5).f1.f1)) || (!(((rd_T40 x0 x5).f1.f2) == ((rd_T40 x1 x5).f1.f2)) || (!(((rd_T40 x0 x5).f1.f3) == ((rd_T40 x1 x5).f1.f3)) || (!(((rd_T40 x0 x5).f1.f4) == ((rd_T40 x1 x5).f1.f4))))))) || (!((((rd_T40 x0 x5).f2).toList) == (((rd_T40 x1 x5).f2).toList))))) = true then (some false) else (curtilageref10_Same.l0 k x0 x1 (wrap64 (x5 + 1)))) else (none)) else (none)) else (some true)
def curtilageref10_Same.f (k : Nat) (l0 : List (S40)) (l1 : List (S40)) : Option (Bool) := if (l0.length : Int) = (l1.length : Int) then (curtilageref10_Same.l0 k l0 l1 0) else (some false)
set_option maxHeartbeats 8000000 in
set_option maxRecDepth 100000 in
theorem curtilageref10_Same.calls (k : Nat) (A0 : Option Addr) (c0 : Nat) (l0 : List (S40)) (A1 : Option Addr) (c1 : Nat) (l1 : List (S40)) (r : Bool) (w : World) (hr0 : Kd.C k40 w A0 l0.length l0) (hc0 : l0.length ≤ c0) (hr1 : Kd.C k40 w A1 l1.length l1) (hc1 : l1.length ≤ c1) (h : curtilageref10_Same.f k l0 l1 = some r) :
    Calls Tryz.prog 8 #[.slice A0 l0.length c0, .slice A1 l1.length c1] w fun e w' => e = .returned (.bool r) ∧ Drawn0 w w' := by
  have hu40 := Tryz.underlying40
  have HR0 := Q4 hr0
  have HC0 := Q4 hc0
  clear hr0 hc0
  have HR1 := Q4 hr1
  have HC1 := Q4 hc1
  clear hr1 hc1
  have H : (if (l0.length : Int) = (l1.length : Int) then (curtilageref10_Same.l0 k l0 l1 0) else (some false)) = some r := h
  clear h
  by_cases c3 : (l0.length : Int) = (l1.length : Int)
  · rw [if_pos c3] at H
    have c3b0 : ((l0.length : Int) == (l1.length : Int)) = true := Qm c3
    have c3b1 : ((l0.length : Int) != (l1.length : Int)) = false := Qh c3
    have c3b2 : (l0.length == l1.length) = true := by first | simpa using c3|(simp at c3 ⊢; omega)
    clear c3
    have H' := Q4 H
    clear H
    go_enter Tryz.func8, Tryz.ntmps8
    go_wp2
    repeat (go_quiet (fail); try go_wp2)
    go_loopg [5] k (fun kq v5 w' => ∃ (x5_1 : Int), v5 = .int .i64 x5_1 ∧ Aside0 (curtilageref10_Same.l0 kq l0 l1 x5_1 = some r) ∧ Aside0 (kq ≤ k) ∧ Drawn0 w w')
    case atStart => exact ⟨(0), (by first|rfl|(simp; done)|(simp [*]; done)), H', ⟨Nat.le_refl _⟩, by repeat (first|exact Drawn0.refl _|apply Drawn0.step)⟩
    case round =>
      clear H'
      try clear c1
      try clear p2
      try clear c3
      try clear c3b0
      try clear c3b1
      try clear c3b2
      obtain ⟨x5_1, rfl, HA, HK1, ⟨m1, rfl⟩⟩ := hrel
      cases gk with
      | zero => exact absurd HA.out (by simp [curtilageref10_Same.l0])
      | succ k1 =>
        have H := HA.out
        clear HA
        simp only [curtilageref10_Same.l0] at H
        by_cases c4 : x5_1 < (l0.length : Int)
        · rw [if_pos c4] at H
          have c4b0 : decide (x5_1 < (l0.length : Int)) = true := Qj c4
          clear c4
          by_cases c5 : 0 ≤ x5_1
          · rw [if_pos c5] at H
            have c5b0 : decide (0 ≤ x5_1) = true := Qj c5
            clear c5
            by_cases c6 : x5_1 < (l1.length : Int)
            · rw [if_pos c6] at H
              have c6b0 : decide (x5_1 < (l1.length : Int)) = true := Qj c6
              clear c6
              by_cases c7 : (!((((rd_T40 l0 x5_1).f0).toList) == (((rd_T40 l1 x5_1).f0).toList)) || ((!(((rd_T40 l0 x5_1).f1.f0) == ((rd_T40 l1 x5_1).f1.f0)) || (!(((rd_T40 l0 x5_1).f1.f1) == ((rd_T40 l1 x5_1).f1.f1)) || (!(((rd_T40 l0 x5_1).f1.f2) == ((rd_T40 l1 x5_1).f1.f2)) || (!(((rd_T40 l0 x5_1).f1.f3) == ((rd_T40 l1 x5_1).f1.f3)) || (!(((rd_T40 l0 x5_1).f1.f4) == ((rd_T40 l1 x5_1).f1.f4))))))) || (!((((rd_T40 l0 x5_1).f2).toList) == (((rd_T40 l1 x5_1).f2).toList))))) = true
              · rw [if_pos c7] at H
                have c7b0 : (!((((rd_T40 l0 x5_1).f0).toList) == (((rd_T40 l1 x5_1).f0).toList)) || ((!(((rd_T40 l0 x5_1).f1.f0) == ((rd_T40 l1 x5_1).f1.f0)) || (!(((rd_T40 l0 x5_1).f1.f1) == ((rd_T40 l1 x5_1).f1.f1)) || (!(((rd_T40 l0 x5_1).f1.f2) == ((rd_T40 l1 x5_1).f1.f2)) || (!(((rd_T40 l0 x5_1).f1.f3) == ((rd_T40 l1 x5_1).f1.f3)) || (!(((rd_T40 l0 x5_1).f1.f4) == ((rd_T40 l1 x5_1).f1.f4))))))) || (!((((rd_T40 l0 x5_1).f2).toList) == (((rd_T40 l1 x5_1).f2).toList))))) = true := c7
                clear c7
                obtain rfl := Qn H
                have p226 : 0 ≤ (x5_1 : Int) := Qc (by first|(with_reducible assumption)|assumption)
                have q226 : x5_1 < (l0.length : Int) := Qc (by first|(with_reducible assumption)|assumption)
                obtain ⟨ad226, e226, hx226_0, hx226_1, hx226_2, hx226_3, hx226_4, hx226_5, hx226_6⟩ := at_T40 HR0.out x5_1 p226 q226
                cases e226
                replace p226 := eq_true p226
                replace q226 := eq_true q226
                have p227 : 0 ≤ (x5_1 : Int) := Qc (by first|(with_reducible assumption)|assumption)
                have q227 : x5_1 < (l1.length : Int) := Qc (by first|(with_reducible assumption)|assumption)
                obtain ⟨ad227, e227, hx227_0, hx227_1, hx227_2, hx227_3, hx227_4, hx227_5, hx227_6⟩ := at_T40 HR1.out x5_1 p227 q227
                cases e227
                replace p227 := eq_true p227
                replace q227 := eq_true q227
                go_wp2
                repeat (go_quiet (fail); try go_wp2)
                go_ret
                exact ⟨by first|rfl|(simp; done)|(simp [*]; done), by repeat (first|exact Drawn0.refl _|apply Drawn0.step)⟩
              · rw [if_neg c7] at H
                have c7b0 : (!((((rd_T40 l0 x5_1).f0).toList) == (((rd_T40 l1 x5_1).f0).toList)) || ((!(((rd_T40 l0 x5_1).f1.f0) == ((rd_T40 l1 x5_1).f1.f0)) || (!(((rd_T40 l0 x5_1).f1.f1) == ((rd_T40 l1 x5_1).f1.f1)) || (!(((rd_T40 l0 x5_1).f1.f2) == ((rd_T40 l1 x5_1).f1.f2)) || (!(((rd_T40 l0 x5_1).f1.f3) == ((rd_T40 l1 x5_1).f1.f3)) || (!(((rd_T40 l0 x5_1).f1.f4) == ((rd_T40 l1 x5_1).f1.f4))))))) || (!((((rd_T40 l0 x5_1).f2).toList) == (((rd_T40 l1 x5_1).f2).toList))))) = false := by simpa using c7
                clear c7
                have H' := Q4 H
                clear H
                have p226 : 0 ≤ (x5_1 : Int) := Qc (by first|(with_reducible assumption)|assumption)
                have q226 : x5_1 < (l0.length : Int) := Qc (by first|(with_reducible assumption)|assumption)
                obtain ⟨ad226, e226, hx226_0, hx226_1, hx226_2, hx226_3, hx226_4, hx226_5, hx226_6⟩ := at_T40 HR0.out x5_1 p226 q226
                cases e226
                replace p226 := eq_true p226
                replace q226 := eq_true q226
                have p227 : 0 ≤ (x5_1 : Int) := Qc (by first|(with_reducible assumption)|assumption)
                have q227 : x5_1 < (l1.length : Int) := Qc (by first|(with_reducible assumption)|assumption)
                obtain ⟨ad227, e227, hx227_0, hx227_1, hx227_2, hx227_3, hx227_4, hx227_5, hx227_6⟩ := at_T40 HR1.out x5_1 p227 q227
                cases e227
                replace p227 := eq_true p227
                replace q227 := eq_true q227
                go_wp2
                repeat (go_quiet (fail); try go_wp2)
                go_roundg k1
                case measure => have := HK1.out; omega
                case rel => exact ⟨(wrap64 (x5_1 + 1)), (by first|rfl|(simp; done)|(simp [*]; done)), H', ⟨by have := HK1.out; omega⟩, by repeat (first|exact Drawn0.refl _|apply Drawn0.step)⟩
            · rw [if_neg c6] at H
              exact absurd H (by simp)
          · rw [if_neg c5] at H
            exact absurd H (by simp)
        · rw [if_neg c4] at H
          have c4b0 : decide (x5_1 < (l0.length : Int)) = false := decide_eq_false c4
          clear c4
          obtain rfl := Qn H
          go_wp2
          repeat (go_quiet (fail); try go_wp2)
          go_ret
          exact ⟨by first|rfl|(simp; done)|(simp [*]; done), by repeat (first|exact Drawn0.refl _|apply Drawn0.step)⟩
  · rw [if_neg c3] at H
    have c3b0 : ((l0.length : Int) == (l1.length : Int)) = false := Qk c3
    have c3b1 : ((l0.length : Int) != (l1.length : Int)) = true := Ql c3
    have c3b2 : (l0.length == l1.length) = false := by first | simpa using c3|(simp at c3 ⊢; omega)
    obtain rfl := Qn H
    go_enter Tryz.func8, Tryz.ntmps8
    go_wp2
    repeat (go_quiet (fail); try go_wp2)
    go_ret
    exact ⟨by first|rfl|(simp; done)|(simp [*]; done), by repeat (first|exact Drawn0.refl _|apply Drawn0.step)⟩

/-! ### curtilagelaw10_AsmReads: function 3 -/

/-! ### curtilagelaw10_few: function 9 -/
def curtilagelaw10_few.l0 : Nat → List (S40) → Int → Int → Option (Bool)
  | 0, _, _, _ => none
  | k + 1, x8, x9, x10 => if x10 < x9 then (if 0 ≤ x10 then (if x10 < (x8.length : Int) then (if (wrap64 ((((rd_T40 x8 x10).f0).size : Int) + (((rd_T40 x8 x10).f2).size : Int))) > 100 then (some false) else (curtilagelaw10_few.l0 k x8 x9 (wrap64 (x10 + 1)))) else (none)) else (none)) else (some true)
def curtilagelaw10_few.f (k : Nat) (l0 : List (S40)) : Option (Bool) := if (l0.length : Int) > 60 then (some false) else (curtilagelaw10_few.l0 k l0 (l0.length : Int) 0)
set_option maxHeartbeats 8000000 in
set_option maxRecDepth 100000 in
theorem curtilagelaw10_few.calls (k : Nat) (A0 : Option Addr) (c0 : Nat) (l0 : List (S40)) (r : Bool) (w : World) (hr0 : Kd.C k40 w A0 l0.length l0) (hc0 : l0.length ≤ c0) (h : curtilagelaw10_few.f k l0 = some r) :
    Calls Tryz.prog 9 #[.slice A0 l0.length c0] w fun e w' => e = .returned (.bool r) ∧ Below w.heap.size w w' := by
  have hu40 := Tryz.underlying40
  have HR0 := Q4 hr0
  have HC0 := Q4 hc0
  clear hr0 hc0
  have HB := Q4 (Below.refl w.heap.size w)
  have H : (if (l0.length : Int) > 60 then (some false) else (curtilagelaw10_few.l0 k l0 (l0.length : Int) 0)) = some r := h
  clear h
  by_cases c2 : (l0.length : Int) > 60
  · rw [if_pos c2] at H
    have c2b0 : decide (60 < (l0.length : Int)) = true := Qj c2
    have c2b1 : decide (60 < l0.length) = true := Qj (by omega)
    clear c2
    obtain rfl := Qn H
    go_enter Tryz.func9, Tryz.ntmps9
    go_wp2
    go_ret
    exact ⟨by first|rfl|(simp [errW_none, errW_some] <;> rfl)|(simp [*, errW_none, errW_some] <;> rfl), by repeat (first|(with_reducible first|exact HB.out|apply Q8|apply Q5|apply Q9)|exact HB.out)⟩
  · rw [if_neg c2] at H
    have c2b0 : decide (60 < (l0.length : Int)) = false := decide_eq_false c2
    have c2b1 : decide (60 < l0.length) = false := decide_eq_false (by omega)
    clear c2
    have H' := Q4 H
    clear H
    go_enter Tryz.func9, Tryz.ntmps9
    go_wp2
    go_loopg [10] k (fun kq v10 w' => ∃ (x10_1 : Int), v10 = .int .i64 x10_1 ∧ Aside0 (curtilagelaw10_few.l0 kq l0 (l0.length : Int) x10_1 = some r) ∧ Aside0 (kq ≤ k) ∧ Aside0 (Below w.heap.size w w'))
    case atStart => exact ⟨(0), (by first|rfl|(simp; done)|(simp [*]; done)), H', ⟨Nat.le_refl _⟩, ⟨by repeat (first|(with_reducible first|exact HB.out|apply Q8|apply Q5|apply Q9)|exact HB.out)⟩⟩
    case round =>
      clear H'
      try clear c2
      try clear c2b0
      try clear c2b1
      try clear p2
      obtain ⟨x10_1, rfl, HA, HK1, HB⟩ := hrel
      cases gk with
      | zero => exact absurd HA.out (by simp [curtilagelaw10_few.l0])
      | succ k1 =>
        have H := HA.out
        clear HA
        simp only [curtilagelaw10_few.l0] at H
        by_cases c3 : x10_1 < (l0.length : Int)
        · rw [if_pos c3] at H
          have c3b0 : decide (x10_1 < (l0.length : Int)) = true := Qj c3
          clear c3
          by_cases c4 : 0 ≤ x10_1
          · rw [if_pos c4] at H
            have c4b0 : decide (0 ≤ x10_1) = true := Qj c4
            clear c4
            by_cases c5 : x10_1 < (l0.length : Int)
            · rw [if_pos c5] at H
              have c5b0 : decide (x10_1 < (l0.length : Int)) = true := Qj c5
              clear c5
              by_cases c6 : (wrap64 ((((rd_T40 l0 x10_1).f0).size : Int) + (((rd_T40 l0 x10_1).f2).size : Int))) > 100
              · rw [if_pos c6] at H
                have c6b0 : decide (100 < (wrap64 ((((rd_T40 l0 x10_1).f0).size : Int) + (((rd_T40 l0 x10_1).f2).size : Int)))) = true := Qj c6
                clear c6
                obtain rfl := Qn H
                have p241 : 0 ≤ (x10_1 : Int) := Qc (by first|(with_reducible assumption)|assumption)
                have q241 : x10_1 < (l0.length : Int) := Qc (by first|(with_reducible assumption)|assumption)
                obtain ⟨ad241, e241, hx241_0, hx241_1, hx241_2, hx241_3, hx241_4, hx241_5, hx241_6⟩ := at_T40 HR0.out x10_1 p241 q241
                cases e241
                replace hx241_0 := (HB.out.cell (World.block_lt_of_cell? w _ hx241_0)).trans hx241_0
                replace hx241_1 := (HB.out.cell (World.block_lt_of_cell? w _ hx241_1)).trans hx241_1
                replace hx241_2 := (HB.out.cell (World.block_lt_of_cell? w _ hx241_2)).trans hx241_2
                replace hx241_3 := (HB.out.cell (World.block_lt_of_cell? w _ hx241_3)).trans hx241_3
                replace hx241_4 := (HB.out.cell (World.block_lt_of_cell? w _ hx241_4)).trans hx241_4
                replace hx241_5 := (HB.out.cell (World.block_lt_of_cell? w _ hx241_5)).trans hx241_5
                replace hx241_6 := (HB.out.cell (World.block_lt_of_cell? w _ hx241_6)).trans hx241_6
                replace p241 := eq_true p241
                replace q241 := eq_true q241
                go_wp2_with (first|((with_reducible refine gate_dst (N := 4) rfl ?_); refine box_event ?hg (N := 4) ?hd (cs := #[.string (⟨#[]⟩ : ByteArray), .int .i64 0, .int .i64 0, .int .i64 0, .int .i64 0, .int .i32 0, .string (⟨#[]⟩ : ByteArray)]) (t := 40) ?hr ?_; (case hd => rfl); (case hg => rfl); (case hr => first|(go_simp; done)|(go_simp; rfl)); intro gb242 hg w7 hbox hb; have n0_ := Q4 (Qg (by repeat (first|(with_reducible first|exact HB.out|apply Q8|apply Q5|apply Q9)|exact HB.out)) hb); have n1_ := Q4 (hbox); have n2_ := Q4 ((by rw [hg]; exact bZ : w.heap.size ≤ gb242)); have n3_ := Q4 ((by rw [hg]; exact bZ : w.heap.size ≤ gb242)); clear HB; have HB := n0_; have BK242 := n1_; have GW242 := n2_; have GE242 := n3_; clear n0_ n1_ n2_ n3_; clear hb hbox hg; have hcz8_0 : w7.cell? ⟨gb242, 0, none⟩ = some (.string (⟨#[]⟩ : ByteArray)) := (Qe BK242.out 0).trans rfl; have hcz8_1 : w7.cell? ⟨gb242, 1, none⟩ = some (.int .i64 0) := (Qe BK242.out 1).trans rfl; have hcz8_2 : w7.cell? ⟨gb242, 2, none⟩ = some (.int .i64 0) := (Qe BK242.out 2).trans rfl; have hcz8_3 : w7.cell? ⟨gb242, 3, none⟩ = some (.int .i64 0) := (Qe BK242.out 3).trans rfl; have hcz8_4 : w7.cell? ⟨gb242, 4, none⟩ = some (.int .i64 0) := (Qe BK242.out 4).trans rfl; have hcz8_5 : w7.cell? ⟨gb242, 5, none⟩ = some (.int .i32 0) := (Qe BK242.out 5).trans rfl; have hcz8_6 : w7.cell? ⟨gb242, 6, none⟩ = some (.string (⟨#[]⟩ : ByteArray)) := (Qe BK242.out 6).trans rfl; have hfz8_0 := Qd BK242.out 0; have hfz8_1 := Qd BK242.out 1; have hfz8_2 := Qd BK242.out 2; have hfz8_3 := Qd BK242.out 3; have hfz8_4 := Qd BK242.out 4; have hfz8_5 := Qd BK242.out 5; have hfz8_6 := Qd BK242.out 6))
                go_ret
                exact ⟨by first|rfl|(simp [errW_none, errW_some] <;> rfl)|(simp [*, errW_none, errW_some] <;> rfl), by repeat (first|(with_reducible first|exact HB.out|apply Q8|apply Q5|apply Q9|refine Q6 ?_ GE242.out)|exact HB.out)⟩
              · rw [if_neg c6] at H
                have c6b0 : decide (100 < (wrap64 ((((rd_T40 l0 x10_1).f0).size : Int) + (((rd_T40 l0 x10_1).f2).size : Int)))) = false := decide_eq_false c6
                clear c6
                have H' := Q4 H
                clear H
                have p241 : 0 ≤ (x10_1 : Int) := Qc (by first|(with_reducible assumption)|assumption)
                have q241 : x10_1 < (l0.length : Int) := Qc (by first|(with_reducible assumption)|assumption)
                obtain ⟨ad241, e241, hx241_0, hx241_1, hx241_2, hx241_3, hx241_4, hx241_5, hx241_6⟩ := at_T40 HR0.out x10_1 p241 q241
                cases e241
                replace hx241_0 := (HB.out.cell (World.block_lt_of_cell? w _ hx241_0)).trans hx241_0
                replace hx241_1 := (HB.out.cell (World.block_lt_of_cell? w _ hx241_1)).trans hx241_1
                replace hx241_2 := (HB.out.cell (World.block_lt_of_cell? w _ hx241_2)).trans hx241_2
                replace hx241_3 := (HB.out.cell (World.block_lt_of_cell? w _ hx241_3)).trans hx241_3
                replace hx241_4 := (HB.out.cell (World.block_lt_of_cell? w _ hx241_4)).trans hx241_4
                replace hx241_5 := (HB.out.cell (World.block_lt_of_cell? w _ hx241_5)).trans hx241_5
                replace hx241_6 := (HB.out.cell (World.block_lt_of_cell? w _ hx241_6)).trans hx241_6
                replace p241 := eq_true p241
                replace q241 := eq_true q241
                go_wp2_with (first|((with_reducible refine gate_dst (N := 4) rfl ?_); refine box_event ?hg (N := 4) ?hd (cs := #[.string (⟨#[]⟩ : ByteArray), .int .i64 0, .int .i64 0, .int .i64 0, .int .i64 0, .int .i32 0, .string (⟨#[]⟩ : ByteArray)]) (t := 40) ?hr ?_; (case hd => rfl); (case hg => rfl); (case hr => first|(go_simp; done)|(go_simp; rfl)); intro gb242 hg w9 hbox hb; have n0_ := Q4 (Qg (by repeat (first|(with_reducible first|exact HB.out|apply Q8|apply Q5|apply Q9)|exact HB.out)) hb); have n1_ := Q4 (hbox); have n2_ := Q4 ((by rw [hg]; exact bZ : w.heap.size ≤ gb242)); have n3_ := Q4 ((by rw [hg]; exact bZ : w.heap.size ≤ gb242)); clear HB; have HB := n0_; have BK242 := n1_; have GW242 := n2_; have GE242 := n3_; clear n0_ n1_ n2_ n3_; clear hb hbox hg; have hcz10_0 : w9.cell? ⟨gb242, 0, none⟩ = some (.string (⟨#[]⟩ : ByteArray)) := (Qe BK242.out 0).trans rfl; have hcz10_1 : w9.cell? ⟨gb242, 1, none⟩ = some (.int .i64 0) := (Qe BK242.out 1).trans rfl; have hcz10_2 : w9.cell? ⟨gb242, 2, none⟩ = some (.int .i64 0) := (Qe BK242.out 2).trans rfl; have hcz10_3 : w9.cell? ⟨gb242, 3, none⟩ = some (.int .i64 0) := (Qe BK242.out 3).trans rfl; have hcz10_4 : w9.cell? ⟨gb242, 4, none⟩ = some (.int .i64 0) := (Qe BK242.out 4).trans rfl; have hcz10_5 : w9.cell? ⟨gb242, 5, none⟩ = some (.int .i32 0) := (Qe BK242.out 5).trans rfl; have hcz10_6 : w9.cell? ⟨gb242, 6, none⟩ = some (.string (⟨#[]⟩ : ByteArray)) := (Qe BK242.out 6).trans rfl; have hfz10_0 := Qd BK242.out 0; have hfz10_1 := Qd BK242.out 1; have hfz10_2 := Qd BK242.out 2; have hfz10_3 := Qd BK242.out 3; have hfz10_4 := Qd BK242.out 4; have hfz10_5 := Qd BK242.out 5; have hfz10_6 := Qd BK242.out 6))
                go_roundg k1
                case measure => have := HK1.out; omega
                case rel => exact ⟨(wrap64 (x10_1 + 1)), (by first|rfl|(simp; done)|(simp [*]; done)), H', ⟨by have := HK1.out; omega⟩, ⟨by repeat (first|(with_reducible first|exact HB.out|apply Q8|apply Q5|apply Q9|refine Q6 ?_ GE242.out)|exact HB.out)⟩⟩
            · rw [if_neg c5] at H
              exact absurd H (by simp)
          · rw [if_neg c4] at H
            exact absurd H (by simp)
        · rw [if_neg c3] at H
          have c3b0 : decide (x10_1 < (l0.length : Int)) = false := decide_eq_false c3
          clear c3
          obtain rfl := Qn H
          go_wp2
          go_ret
          exact ⟨by first|rfl|(simp [errW_none, errW_some] <;> rfl)|(simp [*, errW_none, errW_some] <;> rfl), by repeat (first|(with_reducible first|exact HB.out|apply Q8|apply Q5|apply Q9)|exact HB.out)⟩

/-! ### curtilageref10_Good: function 11 -/
def curtilageref10_Good.l0 : Nat → List (S40) → Int → Option (Bool)
  | 0, _, _ => none
  | k + 1, x0, x3 => if x3 < (x0.length : Int) then (if 0 ≤ x3 then ((curtilageref10_good.f k ((rd_T40 x0 x3).f0) ((rd_T40 x0 x3).f1.f0) ((rd_T40 x0 x3).f1.f1) ((rd_T40 x0 x3).f1.f2) ((rd_T40 x0 x3).f1.f3) ((rd_T40 x0 x3).f1.f4) ((rd_T40 x0 x3).f2)).bind fun t244 => (if t244 = true then (curtilageref10_Good.l0 k x0 (wrap64 (x3 + 1))) else (some false))) else (none)) else (some true)
def curtilageref10_Good.f (k : Nat) (l0 : List (S40)) : Option (Bool) := curtilageref10_Good.l0 k l0 0
set_option maxHeartbeats 8000000 in
set_option maxRecDepth 100000 in
theorem curtilageref10_Good.calls (k : Nat) (A0 : Option Addr) (c0 : Nat) (l0 : List (S40)) (r : Bool) (w : World) (hr0 : Kd.C k40 w A0 l0.length l0) (hc0 : l0.length ≤ c0) (h : curtilageref10_Good.f k l0 = some r) :
    Calls Tryz.prog 11 #[.slice A0 l0.length c0] w fun e w' => e = .returned (.bool r) ∧ Below w.heap.size w w' := by
  have hu40 := Tryz.underlying40
  have HR0 := Q4 hr0
  have HC0 := Q4 hc0
  clear hr0 hc0
  have HB := Q4 (Below.refl w.heap.size w)
  have H : (curtilageref10_Good.l0 k l0 0) = some r := h
  clear h
  have H' := Q4 H
  clear H
  go_enter Tryz.func11, Tryz.ntmps11
  go_wp2
  go_loopg [3] k (fun kq v3 w' => ∃ (x3_1 : Int), v3 = .int .i64 x3_1 ∧ Aside0 (curtilageref10_Good.l0 kq l0 x3_1 = some r) ∧ Aside0 (kq ≤ k) ∧ Aside0 (Below w.heap.size w w'))
  case atStart => exact ⟨(0), (by first|rfl|(simp; done)|(simp [*]; done)), H', ⟨Nat.le_refl _⟩, ⟨by repeat (first|(with_reducible first|exact HB.out|apply Q8|apply Q5|apply Q9)|exact HB.out)⟩⟩
  case round =>
    clear H'
    try clear c1
    obtain ⟨x3_1, rfl, HA, HK1, HB⟩ := hrel
    cases gk with
    | zero => exact absurd HA.out (by simp [curtilageref10_Good.l0])
    | succ k1 =>
      have H := HA.out
      clear HA
      simp only [curtilageref10_Good.l0] at H
      by_cases c2 : x3_1 < (l0.length : Int)
      · rw [if_pos c2] at H
        have c2b0 : decide (x3_1 < (l0.length : Int)) = true := Qj c2
        clear c2
        by_cases c3 : 0 ≤ x3_1
        · rw [if_pos c3] at H
          have c3b0 : decide (0 ≤ x3_1) = true := Qj c3
          clear c3
          replace H := Qi H
          obtain ⟨t244, A40, H⟩ := H
          try dsimp only at H
          have A4 := Q4 A40
          clear A40
          by_cases c5 : t244 = true
          · subst c5
            rw [if_pos rfl] at H
            have H' := Q4 H
            clear H
            have p243 : 0 ≤ (x3_1 : Int) := Qc (by first|(with_reducible assumption)|assumption)
            have q243 : x3_1 < (l0.length : Int) := Qc (by first|(with_reducible assumption)|assumption)
            obtain ⟨ad243, e243, hx243_0, hx243_1, hx243_2, hx243_3, hx243_4, hx243_5, hx243_6⟩ := at_T40 HR0.out x3_1 p243 q243
            cases e243
            replace hx243_0 := (HB.out.cell (World.block_lt_of_cell? w _ hx243_0)).trans hx243_0
            replace hx243_1 := (HB.out.cell (World.block_lt_of_cell? w _ hx243_1)).trans hx243_1
            replace hx243_2 := (HB.out.cell (World.block_lt_of_cell? w _ hx243_2)).trans hx243_2
            replace hx243_3 := (HB.out.cell (World.block_lt_of_cell? w _ hx243_3)).trans hx243_3
            replace hx243_4 := (HB.out.cell (World.block_lt_of_cell? w _ hx243_4)).trans hx243_4
            replace hx243_5 := (HB.out.cell (World.block_lt_of_cell? w _ hx243_5)).trans hx243_5
            replace hx243_6 := (HB.out.cell (World.block_lt_of_cell? w _ hx243_6)).trans hx243_6
            replace p243 := eq_true p243
            replace q243 := eq_true q243
            go_wp2_with (first|((with_reducible refine gate_callee (f := 21) rfl ?_); refine gL (some 14) Tryz.func21 #[.agg #[.string ((rd_T40 l0 x3_1).f0), .int .i64 ((rd_T40 l0 x3_1).f1.f0), .int .i64 ((rd_T40 l0 x3_1).f1.f1), .int .i64 ((rd_T40 l0 x3_1).f1.f2), .int .i64 ((rd_T40 l0 x3_1).f1.f3), .int .i32 ((rd_T40 l0 x3_1).f1.f4), .string ((rd_T40 l0 x3_1).f2)]] ?_; (with_reducible refine (curtilageref10_good.calls k1 ((rd_T40 l0 x3_1).f0) ((rd_T40 l0 x3_1).f1.f0) ((rd_T40 l0 x3_1).f1.f1) ((rd_T40 l0 x3_1).f1.f2) ((rd_T40 l0 x3_1).f1.f3) ((rd_T40 l0 x3_1).f1.f4) ((rd_T40 l0 x3_1).f2) true _ A4.out).mono ?_); rintro e w6 ⟨rfl, hb⟩; refine ⟨_, rfl, ?_⟩; have n0_ := Q4 (Qg (by repeat (first|(with_reducible first|exact HB.out|apply Q8|apply Q5|apply Q9)|exact HB.out)) hb); clear HB; have HB := n0_; clear n0_;(try clear hb);(try clear hb2);(try clear hk);(try clear hi)))
            go_roundg k1
            case measure => have := HK1.out; omega
            case rel => exact ⟨(wrap64 (x3_1 + 1)), (by first|rfl|(simp; done)|(simp [*]; done)), H', ⟨by have := HK1.out; omega⟩, ⟨by repeat (first|(with_reducible first|exact HB.out|apply Q8|apply Q5|apply Q9)|exact HB.out)⟩⟩
          · replace c5 := Bool.eq_false_iff.mpr c5
            subst c5
            rw [if_neg (show ¬ (false = true) by decide)] at H
            obtain rfl := Qn H
            have p243 : 0 ≤ (x3_1 : Int) := Qc (by first|(with_reducible assumption)|assumption)
            have q243 : x3_1 < (l0.length : Int) := Qc (by first|(with_reducible assumption)|assumption)
            obtain ⟨ad243, e243, hx243_0, hx243_1, hx243_2, hx243_3, hx243_4, hx243_5, hx243_6⟩ := at_T40 HR0.out x3_1 p243 q243
            cases e243
            replace hx243_0 := (HB.out.cell (World.block_lt_of_cell? w _ hx243_0)).trans hx243_0
            replace hx243_1 := (HB.out.cell (World.block_lt_of_cell? w _ hx243_1)).trans hx243_1
            replace hx243_2 := (HB.out.cell (World.block_lt_of_cell? w _ hx243_2)).trans hx243_2
            replace hx243_3 := (HB.out.cell (World.block_lt_of_cell? w _ hx243_3)).trans hx243_3
            replace hx243_4 := (HB.out.cell (World.block_lt_of_cell? w _ hx243_4)).trans hx243_4
            replace hx243_5 := (HB.out.cell (World.block_lt_of_cell? w _ hx243_5)).trans hx243_5
            replace hx243_6 := (HB.out.cell (World.block_lt_of_cell? w _ hx243_6)).trans hx243_6
            replace p243 := eq_true p243
            replace q243 := eq_true q243
            go_wp2_with (first|((with_reducible refine gate_callee (f := 21) rfl ?_); refine gL (some 14) Tryz.func21 #[.agg #[.string ((rd_T40 l0 x3_1).f0), .int .i64 ((rd_T40 l0 x3_1).f1.f0), .int .i64 ((rd_T40 l0 x3_1).f1.f1), .int .i64 ((rd_T40 l0 x3_1).f1.f2), .int .i64 ((rd_T40 l0 x3_1).f1.f3), .int .i32 ((rd_T40 l0 x3_1).f1.f4), .string ((rd_T40 l0 x3_1).f2)]] ?_; (with_reducible refine (curtilageref10_good.calls k1 ((rd_T40 l0 x3_1).f0) ((rd_T40 l0 x3_1).f1.f0) ((rd_T40 l0 x3_1).f1.f1) ((rd_T40 l0 x3_1).f1.f2) ((rd_T40 l0 x3_1).f1.f3) ((rd_T40 l0 x3_1).f1.f4) ((rd_T40 l0 x3_1).f2) false _ A4.out).mono ?_); rintro e w7 ⟨rfl, hb⟩; refine ⟨_, rfl, ?_⟩; have n0_ := Q4 (Qg (by repeat (first|(with_reducible first|exact HB.out|apply Q8|apply Q5|apply Q9)|exact HB.out)) hb); clear HB; have HB := n0_; clear n0_;(try clear hb);(try clear hb2);(try clear hk);(try clear hi)))
            go_ret
            exact ⟨by first|rfl|(simp [errW_none, errW_some] <;> rfl)|(simp [*, errW_none, errW_some] <;> rfl), by repeat (first|(with_reducible first|exact HB.out|apply Q8|apply Q5|apply Q9)|exact HB.out)⟩
        · rw [if_neg c3] at H
          exact absurd H (by simp)
      · rw [if_neg c2] at H
        have c2b0 : decide (x3_1 < (l0.length : Int)) = false := decide_eq_false c2
        clear c2
        obtain rfl := Qn H
        go_wp2
        go_ret
        exact ⟨by first|rfl|(simp [errW_none, errW_some] <;> rfl)|(simp [*, errW_none, errW_some] <;> rfl), by repeat (first|(with_reducible first|exact HB.out|apply Q8|apply Q5|apply Q9)|exact HB.out)⟩

end Go.Proofs.YtbelnkdbghggmaaGreatDoor.X
