/- Texts of this claim that stand one behind another, merged. -/
import Derived.Test.YtbelnkdbghggmaaGreatDoorMr9
import Derived.Test.YtbelnkdbghggmaaGreatDoorXx10
import Derived.Test.YtbelnkdbghggmaaGreatDoorXx0
import Derived.Test.YtbelnkdbghggmaaGreatDoorMr6
import Derived.Test.YtbelnkdbghggmaaGreatDoorMr5
namespace Go.Proofs.YtbelnkdbghggmaaGreatDoor.X
open Go.RowKit Go.Proofs.YtbelnkdbghggmaaGreatDoorW.PrintWords
set_option linter.unusedVariables false
set_option linter.unusedSimpArgs false
abbrev L1 (k : Nat) (t : ByteArray) (ws : List ByteArray) (sh : ByteArray) (i : Int) (x : S40) : Option RS := curtilageref10_read.l1 k t ws sh i x.f0 x.f1.f0 x.f1.f1 x.f1.f2 x.f1.f3 x.f1.f4 x.f2
abbrev L0 (k : Nat) (t : ByteArray) (ws : List ByteArray) (n op : Int) : Option RS := curtilageref10_read.l0 k t ws n (⟨#[]⟩ : ByteArray) op 0 0 0 0 (⟨#[]⟩ : ByteArray)
/-- A state that the reader can be in. -/
def StOk (x : S40) : Prop := x.f0 = ⟨#[]⟩ ∧ I32 x.f1.f4 ∧ x.f2.size ≤ 600
def setA (x : S40) (v : Int) : S40 := ⟨x.f0, ⟨x.f1.f0, v, x.f1.f2, x.f1.f3, x.f1.f4⟩, x.f2⟩
def setB (x : S40) (v : Int) : S40 := ⟨x.f0, ⟨x.f1.f0, x.f1.f1, v, x.f1.f3, x.f1.f4⟩, x.f2⟩
def setC (x : S40) (v : Int) : S40 := ⟨x.f0, ⟨x.f1.f0, x.f1.f1, x.f1.f2, v, x.f1.f4⟩, x.f2⟩
def setI (x : S40) (v : Int) (m : ByteArray) : S40 := ⟨x.f0, ⟨x.f1.f0, x.f1.f1, x.f1.f2, x.f1.f3, v⟩, m⟩
theorem L1_end (k : Nat) (hk : 1200 ≤ k) (t : ByteArray) (ws : List ByteArray) (sh : ByteArray) (i : Int) (hi : ¬ i < (sh.size : Int)) (x : S40) (h : StOk x) : L1 (k + 1) t ws sh i x = some (tellR x (goodB x && (lineT x == t.data.toList))) := by
  have hw : wfX x := ⟨h.2.1, by rw [h.1]; decide, by have := h.2.2; omega⟩
  show curtilageref10_read.l1 (k + 1) t ws sh i x.f0 x.f1.f0 x.f1.f1 x.f1.f2 x.f1.f3 x.f1.f4 x.f2 = _
  simp only [curtilageref10_read.l1]
  rw [if_neg hi, rGood k x (by rw [h.1]; decide) (by have := h.2.2; omega) (by have h1 : x.f0.size = 0 := (by rw [h.1]; rfl); have := h.2.2; omega)]
  simp only [Option.bind_some]
  cases hg : goodB x with
  | false => rw [if_neg (by decide)]; rfl
  | true =>
    rw [if_pos rfl, rLine k (by omega) hw hg]
    simp only [Option.bind_some]
    rw [ByteArray.toList_eq, ByteArray.toList_eq, toB_data]
    rfl
/-- The reader's number or mark. -/
def L3 (k : Nat) (t : ByteArray) (ws : List ByteArray) (sh : ByteArray) (i : Nat) (w : ByteArray) (z : Bool) (x : S40) : Option RS := curtilageref10_read.j3 k t ws sh (i : Int) w z x.f0 x.f1.f0 x.f1.f1 x.f1.f2 x.f1.f3 x.f1.f4 x.f2
theorem L1_step (k : Nat) (hk : 1200 ≤ k) (t : ByteArray) (ws : List ByteArray) (sh : ByteArray) (i : Nat) (hi : i < sh.size) (hws : i + 1 < ws.length) (hsh : sh.size ≤ 1000) (w : ByteArray) (hw : ws.getD (i + 1) ByteArray.empty = w) (x : S40) :
    ∃ v : Int, (∀ a : Int, 0 ≤ a ∧ a < 16 → w.data.toList = 114 :: Lib.itoa a → v = a) ∧ L1 (k + 1) t ws sh (i : Int) x = if bt sh (i : Int) = 97 then L1 k t ws sh ((i + 1 : Nat) : Int) (setA x v) else if bt sh (i : Int) = 98 then L1 k t ws sh ((i + 1 : Nat) : Int) (setB x v) else if bt sh (i : Int) = 99 then L1 k t ws sh ((i + 1 : Nat) : Int) (setC x v) else L3 k t ws sh i w (w.size != 0 && (bt w 0 == 64)) x := by
  have hn : wrap64 ((i : Int) + 1) = ((i + 1 : Nat) : Int) := by rw [w64 _ (by omega) (by omega)]; omega
  have hrd : rdOf ByteArray.empty ws ((i + 1 : Nat) : Int) = w := by
    unfold rdOf
    rw [show (((i + 1 : Nat) : Int)).toNat = i + 1 from by omega]
    exact hw
  obtain ⟨v, h1, _⟩ := rRegister k (by omega) w
  refine ⟨v, fun a ha he => ?_, ?_⟩
  · have := rRegister_of k (by omega) w a ha he
    rw [h1] at this
    exact Option.some.inj this
  · show curtilageref10_read.l1 (k + 1) t ws sh (i : Int) x.f0 x.f1.f0 x.f1.f1 x.f1.f2 x.f1.f3 x.f1.f4 x.f2 = _
    simp only [curtilageref10_read.l1]
    rw [hn, hrd, h1, if_pos (by omega), if_pos (by omega), if_pos (by omega)]
    simp only [Option.bind_some]
    rw [if_pos (by omega)]
    by_cases e1 : bt sh (i : Int) = 97
    · rw [if_pos e1, if_pos e1]; rfl
    · rw [if_neg e1, if_neg e1]
      by_cases e2 : bt sh (i : Int) = 98
      · rw [if_pos e2, if_pos e2]; rfl
      · rw [if_neg e2, if_neg e2]
        by_cases e3 : bt sh (i : Int) = 99
        · rw [if_pos e3, if_pos e3]; rfl
        · rw [if_neg e3, if_neg e3]
          unfold L3
          by_cases e4 : w.toList = ([] : List UInt8)
          · have hz : w.size = 0 := by rw [size_data, (toList_iff w).1 e4]; rfl
            rw [if_pos e4, hz]
            rfl
          · have hz : w.size ≠ 0 := fun hz => e4 ((toList_iff w).2 (List.length_eq_zero_iff.1 (by rw [← size_data]; exact hz)))
            rw [if_neg e4, if_pos (by omega)]
            have : (w.size != 0) = true := by simp [hz]
            rw [this, Bool.true_and]
theorem L3_total (k : Nat) (hk : 1200 ≤ k) (t : ByteArray) (ws : List ByteArray) (sh : ByteArray) (i : Nat) (hi : i < 1000) (w : ByteArray) (hw : w.size ≤ 600) (z : Bool) (hz : z = true → 1 ≤ w.size) (x : S40) (h : StOk x) :
    (∃ r, L3 (k + 1) t ws sh i w z x = some r ∧ okOf r = false) ∨ ∃ v m, StOk (setI x v m) ∧ L3 (k + 1) t ws sh i w z x = L1 k t ws sh ((i + 1 : Nat) : Int) (setI x v m) := by
  have hn : wrap64 ((i : Int) + 1) = ((i + 1 : Nat) : Int) := by rw [w64 _ (by omega) (by omega)]; omega
  unfold L3
  simp only [curtilageref10_read.j3]
  cases z with
  | true =>
    have hz1 := hz rfl
    have hsz : (w.extract 1 w.size).size ≤ w.size := by rw [ByteArray.size_extract]; omega
    obtain ⟨m, v, b, h1, h2, h3⟩ := target_total k (w.extract 1 w.size) (by omega) (by omega)
    rw [if_pos rfl, if_pos (by omega), h1, hn]
    simp only [Option.bind_some]
    cases b with
    | false => left; rw [if_neg (by decide)]; exact ⟨_, rfl, rfl⟩
    | true =>
      rw [if_pos rfl]
      by_cases he : m.toList = ([] : List UInt8)
      · left; rw [if_pos he]; exact ⟨_, rfl, rfl⟩
      · right; rw [if_neg he]; exact ⟨v, m, ⟨h.1, h3, by show m.size ≤ 600; omega⟩, rfl⟩
  | false =>
    obtain ⟨v, b, h1, h3⟩ := rNumber_total k (by omega) w
    rw [if_neg (by decide), h1, hn]
    simp only [Option.bind_some]
    cases b with
    | false => left; rw [if_neg (by decide)]; exact ⟨_, rfl, rfl⟩
    | true => right; rw [if_pos rfl]; exact ⟨v, x.f2, ⟨h.1, h3, h.2.2⟩, rfl⟩
theorem tell_sound (t : ByteArray) (x : S40) (h : StOk x) : Sound t (tellR x (goodB x && (lineT x == t.data.toList))) := by
  intro hok
  have hb : (goodB x && (lineT x == t.data.toList)) = true := hok
  rw [Bool.and_eq_true, beq_iff_eq] at hb
  exact ⟨⟨h.2.1, by show x.f0.size ≤ _; rw [h.1]; decide, by show x.f2.size ≤ _; have := h.2.2; omega⟩, hb.1, hb.2⟩
theorem sound_false {t : ByteArray} {r : RS} (h : okOf r = false) : Sound t r := fun k => by rw [h] at k; cases k
theorem L1_total (t : ByteArray) (ws : List ByteArray) (sh : ByteArray) (hsh : sh.size ≤ 900) (hws : ws.length = sh.size + 1) (hz : ∀ w ∈ ws, w.size ≤ 600) : ∀ (d i k : Nat) (x : S40), i + d = sh.size → 3 * d + 1300 ≤ k → StOk x → ∃ r, L1 k t ws sh (i : Int) x = some r ∧ Sound t r
  | 0, i, k, x, hi, hk, hx => by
    obtain ⟨k, rfl⟩ : ∃ m, k = m + 1 := ⟨k - 1, by omega⟩
    rw [L1_end k (by omega) t ws sh i (by omega) x hx]
    exact ⟨_, rfl, tell_sound t x hx⟩
  | d + 1, i, k, x, hi, hk, hx => by
    obtain ⟨k, rfl⟩ : ∃ m, k = m + 2 := ⟨k - 2, by omega⟩
    have hlt : i + 1 < ws.length := by omega
    have hmem : ws.getD (i + 1) ByteArray.empty ∈ ws := by
      rw [List.getD_eq_getElem?_getD, List.getElem?_eq_getElem hlt]
      exact List.getElem_mem hlt
    obtain ⟨v, _, hv⟩ := L1_step (k + 1) (by omega) t ws sh i (by omega) hlt (by omega) _ rfl x
    rw [hv]
    split
    · exact L1_total t ws sh hsh hws hz d (i + 1) _ _ (by omega) (by omega) ⟨hx.1, hx.2.1, hx.2.2⟩
    · split
      · exact L1_total t ws sh hsh hws hz d (i + 1) _ _ (by omega) (by omega) ⟨hx.1, hx.2.1, hx.2.2⟩
      · split
        · exact L1_total t ws sh hsh hws hz d (i + 1) _ _ (by omega) (by omega) ⟨hx.1, hx.2.1, hx.2.2⟩
        · rcases L3_total k (by omega) t ws sh i (by omega) _ (hz _ hmem) ((ws.getD (i + 1) ByteArray.empty).size != 0 && (bt (ws.getD (i + 1) ByteArray.empty) 0 == 64)) (fun h => by
            rw [Bool.and_eq_true, bne_iff_ne] at h
            omega) x hx with ⟨r, h1, h2⟩ | ⟨v, m, h1, h2⟩
          · exact ⟨r, h1, sound_false h2⟩
          · rw [h2]
            exact L1_total t ws sh hsh hws hz d (i + 1) _ _ (by omega) (by omega) h1
/-- A number or a mark that is written is read. -/
theorem L3_of (k : Nat) (hk : 1200 ≤ k) (t : ByteArray) (ws : List ByteArray) (sh : ByteArray) (i : Nat) (hi : i < 1000) (y : S40) (hy : goodB y = true) (hyw : wfX y) (hy0 : y.f0.toList = []) (x : S40) (hx : x.f2 = ⟨#[]⟩) :
    L3 (k + 1) t ws sh i (toB (wordI y)) ((toB (wordI y)).size != 0 && (bt (toB (wordI y)) 0 == 64)) x = L1 k t ws sh ((i + 1 : Nat) : Int) (setI x y.f1.f4 y.f2) := by
  have hn : wrap64 ((i : Int) + 1) = ((i + 1 : Nat) : Int) := by rw [w64 _ (by omega) (by omega)]; omega
  have h32 : I32 y.f1.f4 := hyw.1
  rcases wordI_data hy hy0 with ⟨h2, hwi⟩ | ⟨h2, hn2, hwi⟩
  · obtain ⟨c, r, hc, h64, _⟩ := itoa_head y.f1.f4
    have hb : bt (toB (wordI y)) 0 = (c.toNat : Int) := bt_zero (r := r) (by rw [toB_data, hwi, hc])
    have hne : ((c.toNat : Int) == 64) = false := by
      rw [beq_eq_false_iff_ne]
      exact fun e => h64 (UInt8.toNat_inj.1 (by show c.toNat = 64; omega))
    rw [hb, hne, Bool.and_false]
    unfold L3
    simp only [curtilageref10_read.j3]
    rw [if_neg (by decide), hn, hwi, show toB (Lib.itoa y.f1.f4) = itoaB y.f1.f4 from rfl, rNumber_itoa k (by omega) _ h32]
    simp only [Option.bind_some, if_true]
    rw [h2, ← hx]
    rfl
  · have hN := (named_size hn2).2
    have hnc := named_chars hn2
    have key : ∀ q : List UInt8, wordI y = 64 :: q → q.length ≤ 600 → ((toB (wordI y)).size != 0 && (bt (toB (wordI y)) 0 == 64)) = true ∧ 1 ≤ (toB (wordI y)).size ∧ (toB (wordI y)).extract 1 (toB (wordI y)).size = toB q := by
      intro q hq hl
      have hb : bt (toB (wordI y)) 0 = ((64 : UInt8).toNat : Int) := bt_zero (r := q) (by rw [toB_data, hq])
      have hs : (toB (wordI y)).size = q.length + 1 := by rw [size_data, toB_data, hq]; rfl
      refine ⟨by rw [hb, hs]; simp, by omega, ?_⟩
      apply ba_ext
      rw [ext_data, hs, toB_data, toB_data, hq]
      simp
    rcases hwi with ⟨he, hwi⟩ | ⟨he, hwi⟩
    · obtain ⟨k1, k2, k3⟩ := key _ hwi (by rw [← size_data]; omega)
      rw [k1]
      unfold L3
      simp only [curtilageref10_read.j3]
      rw [if_pos trivial, if_pos (by omega), k3, hn, show toB y.f2.data.toList = y.f2 from of_data _, target_none k y.f2 (by omega) (by omega) (fun h => (hnc 43 h).2.1 rfl)]
      simp only [Option.bind_some, if_true]
      rw [if_neg h2, he]
      rfl
    · have hil := itoa_len32 y.f1.f4 h32.1 h32.2
      obtain ⟨k1, k2, k3⟩ := key _ hwi (by rw [List.length_append, List.length_cons, ← size_data]; omega)
      rw [k1]
      unfold L3
      simp only [curtilageref10_read.j3]
      have hs2 : (toB (y.f2.data.toList ++ 43 :: Lib.itoa y.f1.f4)).size ≤ 100 := by
        rw [size_data, toB_data, List.length_append, List.length_cons, ← size_data]
        omega
      obtain ⟨k', hk', ht⟩ := target_at k (toB (y.f2.data.toList ++ 43 :: Lib.itoa y.f1.f4)) (by omega) (by omega) y.f2.data.toList (Lib.itoa y.f1.f4) (toB_data _) (fun h => (hnc 43 h).2.1 rfl)
      rw [show toB (Lib.itoa y.f1.f4) = itoaB y.f1.f4 from rfl, rNumber_itoa k' hk' _ h32] at ht
      simp only [Option.bind_some] at ht
      rw [if_pos trivial, if_pos (by omega), k3, hn, ht]
      simp only [Option.bind_some, if_true]
      rw [show toB y.f2.data.toList = y.f2 from of_data _, if_neg h2]
      rfl
/-- The parts of a good line are read. -/
theorem L1_of (t : ByteArray) (ws : List ByteArray) (y : S40) (hy : goodB y = true) (hyw : wfX y) (hy0 : y.f0.toList = []) (hws : ws = (((nameN y.f1.f0.toNat).data.toList) :: lineWords y).map toB) (k : Nat) (hk : 1500 ≤ k) (ht : lineT y = t.data.toList) :
    L1 k t ws (shapeOf y.f1.f0) ((0 : Nat) : Int) ⟨⟨#[]⟩, ⟨y.f1.f0, 0, 0, 0, 0⟩, ⟨#[]⟩⟩ = some (tellR y true) := by
  obtain ⟨hop, ha, hb, hc⟩ := good_regs hy0 hy
  have hf0 := nil_data hy0
  have hst : StOk y := by
    refine ⟨hf0, hyw.1, ?_⟩
    rcases wordI_data hy hy0 with ⟨h2, _⟩ | ⟨_, hn, _⟩
    · rw [h2]; decide
    · have := (named_size hn).2; omega
  have fin : ∀ (k : Nat) (sh : ByteArray) (i : Nat) (z : S40), 1300 ≤ k → i = sh.size → z = y → L1 k t ws sh (i : Int) z = some (tellR y true) := by
    intro k sh i z hk hi hz
    subst hz
    obtain ⟨k, rfl⟩ : ∃ m, k = m + 1 := ⟨k - 1, by omega⟩
    rw [L1_end k (by omega) t ws sh i (by omega) z hst, hy, ht]
    simp
  rw [lineWords_eq] at hws
  have w0 : wordX y 0 = 114 :: Lib.itoa y.f1.f1 := rfl
  have w1 : wordX y 1 = 114 :: Lib.itoa y.f1.f2 := rfl
  have w2 : wordX y 2 = 114 :: Lib.itoa y.f1.f3 := rfl
  have w3 : wordX y 3 = wordI y := rfl
  have sA : ∀ (k : Nat) (sh : ByteArray) (i : Nat) (z : S40), 1300 ≤ k → i < sh.size → sh.size ≤ 3 → i + 1 < ws.length → bt sh (i : Int) = 97 → ws.getD (i + 1) ByteArray.empty = toB (114 :: Lib.itoa y.f1.f1) → L1 (k + 1) t ws sh (i : Int) z = L1 k t ws sh ((i + 1 : Nat) : Int) (setA z y.f1.f1) := by
    intro k sh i z hk hi hs hl hb hw
    obtain ⟨v, h1, h2⟩ := L1_step k (by omega) t ws sh i hi hl (by omega) _ hw z
    rw [h2, if_pos hb, h1 _ ha (toB_data _)]
  have sB : ∀ (k : Nat) (sh : ByteArray) (i : Nat) (z : S40), 1300 ≤ k → i < sh.size → sh.size ≤ 3 → i + 1 < ws.length → bt sh (i : Int) = 98 → ws.getD (i + 1) ByteArray.empty = toB (114 :: Lib.itoa y.f1.f2) → L1 (k + 1) t ws sh (i : Int) z = L1 k t ws sh ((i + 1 : Nat) : Int) (setB z y.f1.f2) := by
    intro k sh i z hk hi hs hl hb1 hw
    obtain ⟨v, h1, h2⟩ := L1_step k (by omega) t ws sh i hi hl (by omega) _ hw z
    rw [h2, hb1, if_neg (by decide), if_pos rfl, h1 _ hb (toB_data _)]
  have sC : ∀ (k : Nat) (sh : ByteArray) (i : Nat) (z : S40), 1300 ≤ k → i < sh.size → sh.size ≤ 3 → i + 1 < ws.length → bt sh (i : Int) = 99 → ws.getD (i + 1) ByteArray.empty = toB (114 :: Lib.itoa y.f1.f3) → L1 (k + 1) t ws sh (i : Int) z = L1 k t ws sh ((i + 1 : Nat) : Int) (setC z y.f1.f3) := by
    intro k sh i z hk hi hs hl hb1 hw
    obtain ⟨v, h1, h2⟩ := L1_step k (by omega) t ws sh i hi hl (by omega) _ hw z
    rw [h2, hb1, if_neg (by decide), if_neg (by decide), if_pos rfl, h1 _ hc (toB_data _)]
  have sI : ∀ (k : Nat) (sh : ByteArray) (i : Nat) (z : S40), 1300 ≤ k → i < sh.size → sh.size ≤ 3 → i + 1 < ws.length → bt sh (i : Int) = 105 → ws.getD (i + 1) ByteArray.empty = toB (wordI y) → z.f2 = ⟨#[]⟩ → L1 (k + 2) t ws sh (i : Int) z = L1 k t ws sh ((i + 1 : Nat) : Int) (setI z y.f1.f4 y.f2) := by
    intro k sh i z hk hi hs hl hb1 hw hz
    obtain ⟨v, h1, h2⟩ := L1_step (k + 1) (by omega) t ws sh i hi hl (by omega) _ hw z
    rw [h2, hb1, if_neg (by decide), if_neg (by decide), if_neg (by decide)]
    exact L3_of k (by omega) t ws sh i (by omega) y hy hyw hy0 z hz
  obtain ⟨k, rfl⟩ : ∃ m, k = m + 5 := ⟨k - 5, by omega⟩
  obtain ⟨m, ⟨op, a, b, c, e⟩, tq⟩ := y
  simp only at *
  subst hf0
  rcases kinds op hop with ⟨hs, hkd⟩ | ⟨hs, hkd⟩ | ⟨hs, hkd⟩ | ⟨hs, hkd⟩ | ⟨hs, hkd⟩ | ⟨hs, hkd⟩ | ⟨hs, hkd⟩
  all_goals
    obtain ⟨z0, z1, z2, z3⟩ := zeros_of hy0 hy hkd
    simp only [List.mem_cons, List.mem_singleton, List.not_mem_nil, or_false, false_or] at z0 z1 z2 z3
    rw [hs]
    rw [hkd] at hws
    simp only [List.map_cons, List.map_nil, w0, w1, w2, w3] at hws
    have hlen := congrArg List.length hws
    simp only [List.length_cons, List.length_nil] at hlen
  · refine fin _ _ 0 _ (by omega) rfl ?_
    rw [z0 (by decide), z1 (by decide), z2 (by decide), (z3 (by decide)).1, (z3 (by decide)).2]
  · rw [sA (k + 4) _ 0 _ (by omega) (by decide) (by decide) (by omega) (by decide) (by rw [hws]; rfl)]
    refine fin _ _ 1 _ (by omega) rfl ?_
    unfold setA
    rw [z1 (by decide), z2 (by decide), (z3 (by decide)).1, (z3 (by decide)).2]
  · rw [sI (k + 3) _ 0 _ (by omega) (by decide) (by decide) (by omega) (by decide) (by rw [hws]; rfl) rfl]
    refine fin _ _ 1 _ (by omega) rfl ?_
    unfold setI
    rw [z0 (by decide), z1 (by decide), z2 (by decide)]
  · rw [sA (k + 4) _ 0 _ (by omega) (by decide) (by decide) (by omega) (by decide) (by rw [hws]; rfl)]
    rw [sB (k + 3) _ 1 _ (by omega) (by decide) (by decide) (by omega) (by decide) (by rw [hws]; rfl)]
    refine fin _ _ 2 _ (by omega) rfl ?_
    unfold setA setB
    rw [z2 (by decide), (z3 (by decide)).1, (z3 (by decide)).2]
  · rw [sA (k + 4) _ 0 _ (by omega) (by decide) (by decide) (by omega) (by decide) (by rw [hws]; rfl)]
    rw [sI (k + 2) _ 1 _ (by omega) (by decide) (by decide) (by omega) (by decide) (by rw [hws]; rfl) rfl]
    refine fin _ _ 2 _ (by omega) rfl ?_
    unfold setA setI
    rw [z1 (by decide), z2 (by decide)]
  · rw [sA (k + 4) _ 0 _ (by omega) (by decide) (by decide) (by omega) (by decide) (by rw [hws]; rfl)]
    rw [sB (k + 3) _ 1 _ (by omega) (by decide) (by decide) (by omega) (by decide) (by rw [hws]; rfl)]
    rw [sI (k + 1) _ 2 _ (by omega) (by decide) (by decide) (by omega) (by decide) (by rw [hws]; rfl) rfl]
    refine fin _ _ 3 _ (by omega) rfl ?_
    unfold setA setB setI
    rw [z2 (by decide)]
  · rw [sA (k + 4) _ 0 _ (by omega) (by decide) (by decide) (by omega) (by decide) (by rw [hws]; rfl)]
    rw [sB (k + 3) _ 1 _ (by omega) (by decide) (by decide) (by omega) (by decide) (by rw [hws]; rfl)]
    rw [sC (k + 2) _ 2 _ (by omega) (by decide) (by decide) (by omega) (by decide) (by rw [hws]; rfl)]
    refine fin _ _ 3 _ (by omega) rfl ?_
    unfold setA setB setC
    rw [(z3 (by decide)).1, (z3 (by decide)).2]
theorem rOps (t : ByteArray) (ws : List ByteArray) (w0 : ByteArray) (r : List ByteArray) (hws : ws = w0 :: r) (K0 : Nat) (hK0 : 200 ≤ K0) : ∀ (d n k : Nat) (op : Int), n + d = 26 → d + K0 ≤ k → (0 ≤ op ∧ op < 26) → (∀ m : Nat, m < n → (nameN m).data.toList = w0.data.toList → op = (m : Int)) →
    ∃ op' k', K0 ≤ k' ∧ (0 ≤ op' ∧ op' < 26) ∧ (∀ m : Nat, m < 26 → (nameN m).data.toList = w0.data.toList → op' = (m : Int)) ∧ L0 k t ws (n : Int) op = L0 k' t ws ((26 : Nat) : Int) op'
  | 0, n, k, op, hn, hk, h0, hm => by
    have : n = 26 := by omega
    subst this
    exact ⟨op, k, by omega, h0, hm, rfl⟩
  | d + 1, n, k, op, hn, hk, h0, hm => by
    obtain ⟨k, rfl⟩ : ∃ m, k = m + 1 := ⟨k - 1, by omega⟩
    have hn26 : n < 26 := by omega
    obtain ⟨zs, hzs, hzb⟩ := zero_text n hn26
    have hsz := txt_size (n : Int) 0 0 0 0 (by omega)
    have htv : txtV (n : Int) 0 0 0 0 = textP (n : Int) 0 0 0 0 (List.range 4) := if_pos (fit_zero n hn26)
    rw [htv] at hsz
    have hwd := rWords k (textP (n : Int) 0 0 0 0 (List.range 4)) (by omega) (by omega)
    rw [hzs, spl_joined zs _ (name_blank n hn26) hzb, List.map_cons] at hwd
    have hnx : wrap64 ((n : Int) + 1) = ((n + 1 : Nat) : Int) := by rw [w64 _ (by omega) (by omega)]; omega
    have step : L0 (k + 1) t ws (n : Int) op = if (nameN n).data.toList = w0.data.toList then L0 k t ws ((n + 1 : Nat) : Int) (n : Int) else L0 k t ws ((n + 1 : Nat) : Int) op := by
      show curtilageref10_read.l0 (k + 1) t ws (n : Int) _ op 0 0 0 0 _ = _
      simp only [curtilageref10_read.l0]
      rw [if_pos (by omega), rText k (by omega) _ _ _ _ _ (by omega), if_pos (fit_zero n hn26)]
      simp only [Option.bind_some]
      rw [hwd]
      simp only [Option.bind_some]
      rw [if_pos (by rw [List.length_cons]; omega), if_pos (by rw [hws, List.length_cons]; omega), hnx, hws]
      rw [show rdOf ByteArray.empty (toB (nameN n).data.toList :: zs.map toB) 0 = toB (nameN n).data.toList from rfl, show rdOf ByteArray.empty (w0 :: r) 0 = w0 from rfl, ByteArray.toList_eq, ByteArray.toList_eq, toB_data]
    rw [step]
    by_cases he : (nameN n).data.toList = w0.data.toList
    · rw [if_pos he]
      exact rOps t ws w0 r hws K0 hK0 d (n + 1) k (n : Int) (by omega) (by omega) (by omega) (fun m h1 h2 => by rw [names_inj m n (by omega) hn26 (h2.trans he.symm)])
    · rw [if_neg he]
      exact rOps t ws w0 r hws K0 hK0 d (n + 1) k op (by omega) (by omega) h0 (fun m h1 h2 => by
        rcases Nat.lt_or_ge m n with h3 | h3
        · exact hm m h3 h2
        · rw [show m = n from by omega] at h2; exact absurd h2 he)
theorem cast0 : ((0 : Nat) : Int) = 0 := rfl
theorem l0_far (k : Nat) (hk : 50 ≤ k) (t : ByteArray) (ws : List ByteArray) (n op : Int) (hn : ¬ n < 26) : curtilageref10_read.l0 (k + 1) t ws n (⟨#[]⟩ : ByteArray) op 0 0 0 0 (⟨#[]⟩ : ByteArray) = (some (shapeOf op)).bind fun t204 => if (ws.length : Int) = wrap64 (((t204).size : Int) + 1) then curtilageref10_read.l1 k t ws (t204) 0 (⟨#[]⟩ : ByteArray) op 0 0 0 0 (⟨#[]⟩ : ByteArray) else some ((⟨#[]⟩ : ByteArray), op, 0, 0, 0, 0, (⟨#[]⟩ : ByteArray), false) := by
  rw [curtilageref10_read.l0, if_neg hn, rShape k (by omega) op]
theorem L0_end (k : Nat) (hk : 50 ≤ k) (t : ByteArray) (ws : List ByteArray) (n op : Int) (hn : ¬ n < 26) : L0 (k + 1) t ws n op = if (ws.length : Int) = wrap64 (((shapeOf op).size : Int) + 1) then L1 k t ws (shapeOf op) 0 ⟨⟨#[]⟩, ⟨op, 0, 0, 0, 0⟩, ⟨#[]⟩⟩ else some (tellR ⟨⟨#[]⟩, ⟨op, 0, 0, 0, 0⟩, ⟨#[]⟩⟩ false) := by
  refine (l0_far k hk t ws n op hn).trans ?_
  rw [Option.bind_some]
  rfl
theorem j0_ins (K : Nat) (t : ByteArray) (hs : t.size ≤ 600) (hK : 700 ≤ K) : curtilageref10_read.j0 (K + 1) t false = L0 K t ((spl [] t.data.toList).map toB) ((0 : Nat) : Int) 0 := by
  simp only [curtilageref10_read.j0]
  rw [if_neg (by decide), rWords K t (by omega) (by omega)]
  simp only [Option.bind_some]
  rw [cast0]
theorem ins_comp (t : ByteArray) (no58 : ∀ x : S40, lineT x = t.data.toList → x.f0.toList = []) (w0 : List UInt8) (r0 : List (List UInt8)) (hsp : spl [] t.data.toList = w0 :: r0) (op : Int) (h5 : 0 ≤ op ∧ op < 26) (h6 : ∀ m : Nat, m < 26 → (nameN m).data.toList = (toB w0).data.toList → op = (m : Int)) :
    ∀ x : S40, wfX x → goodB x = true → lineT x = t.data.toList → op = x.f1.f0 ∧ ((w0 :: r0).map toB) = (((nameN x.f1.f0.toNat).data.toList) :: lineWords x).map toB ∧ ((w0 :: r0).map toB).length = (shapeOf op).size + 1 := by
  intro x hw hg hl
  have h0 := no58 x hl
  obtain ⟨e1, e2, e3⟩ := line_words h0 hg
  have e4 : w0 :: r0 = (nameN x.f1.f0.toNat).data.toList :: lineWords x := by rw [← hsp, ← hl, e1, spl_joined _ _ e2 e3]
  have hop := (good_regs h0 hg).1
  have e5 := h6 x.f1.f0.toNat (by omega) (by rw [toB_data, (List.cons.inj e4).1])
  have e6 : op = x.f1.f0 := by omega
  exact ⟨e6, by rw [e4], by rw [e4, List.length_map, List.length_cons, words_len x h0 hg, e6]⟩
theorem ins_end (t : ByteArray) (no58 : ∀ x : S40, lineT x = t.data.toList → x.f0.toList = []) (ws : List ByteArray) (hz : ∀ w ∈ ws, w.size ≤ 600) (op : Int) (k : Nat) (hk : 1550 ≤ k)
    (hcomp : ∀ x : S40, wfX x → goodB x = true → lineT x = t.data.toList → op = x.f1.f0 ∧ ws = (((nameN x.f1.f0.toNat).data.toList) :: lineWords x).map toB ∧ ws.length = (shapeOf op).size + 1) :
    ∃ r, L0 (k + 1) t ws ((26 : Nat) : Int) op = some r ∧ Post t r := by
  obtain ⟨hsh, hsb⟩ := shape_small op
  rw [L0_end k (by omega) t ws _ op (by omega), w64 _ (by omega) (by omega)]
  by_cases hl2 : ws.length = (shapeOf op).size + 1
  · rw [if_pos (by rw [hl2]; omega)]
    obtain ⟨r, h8, h9⟩ := L1_total t ws (shapeOf op) (by omega) hl2 hz (shapeOf op).size 0 k ⟨⟨#[]⟩, ⟨op, 0, 0, 0, 0⟩, ⟨#[]⟩⟩ (by omega) (by omega) ⟨rfl, by show I32 0; unfold I32; omega, by show (0 : Nat) ≤ 600; omega⟩
    rw [cast0] at h8
    refine ⟨r, h8, And.intro h9 (fun x hw hg hl => ?_)⟩
    obtain ⟨e6, e7, _⟩ := hcomp x hw hg hl
    have := L1_of t ws x hg hw (no58 x hl) e7 k (by omega) hl
    rw [← e6, cast0] at this
    exact Option.some.inj (h8.symm.trans this)
  · rw [if_neg (by omega)]
    exact ⟨_, rfl, And.intro (fun k => by cases k) (fun x hw hg hl => absurd (hcomp x hw hg hl).2.2 hl2)⟩
theorem rRead_ins (K : Nat) (hK : 2000 ≤ K) (t : ByteArray) (hs : t.size ≤ 600) (no58 : ∀ x : S40, lineT x = t.data.toList → x.f0.toList = []) : ∃ r, curtilageref10_read.j0 K t false = some r ∧ Post t r := by
  obtain ⟨K, rfl⟩ : ∃ m, K = m + 1 := ⟨K - 1, by omega⟩
  rw [j0_ins K t hs (by omega)]
  have hlen := spl_len t.data.toList []
  rw [← size_data] at hlen
  have hz : ∀ w ∈ (spl [] t.data.toList).map toB, w.size ≤ 600 := by
    intro w hw
    obtain ⟨v, hv, rfl⟩ := List.mem_map.1 hw
    have := hlen.2.2 v hv
    rw [size_data, toB_data]
    simp only [List.length_nil] at this
    omega
  cases hsp : spl [] t.data.toList with
  | nil => rw [hsp] at hlen; simp at hlen
  | cons w0 r0 =>
    rw [hsp] at hz
    obtain ⟨op, k', hk', h5, h6, h7⟩ := rOps t ((w0 :: r0).map toB) (toB w0) (r0.map toB) rfl 1600 (by omega) 26 0 K 0 (by omega) (by omega) (by omega) (fun m h => by omega)
    obtain ⟨k', rfl⟩ : ∃ m, k' = m + 1 := ⟨k' - 1, by omega⟩
    rw [h7]
    exact ins_end t no58 _ hz op k' (by omega) (ins_comp t no58 w0 r0 hsp op h5 h6)
theorem rRead_post (K : Nat) (hK : 2100 ≤ K) (t : ByteArray) (hs : t.size ≤ 600) : ∃ r, curtilageref10_read.f K t = some r ∧ Post t r := by
  unfold curtilageref10_read.f
  by_cases he : t.toList = ([] : List UInt8)
  · rw [if_pos he]
    refine rRead_ins K (by omega) t hs (fun x hl => Classical.byContradiction fun h0 => ?_)
    rw [line_mark h0, (toList_iff t).1 he] at hl
    simp at hl
  · have hp : 0 < t.size := by
      rcases Nat.eq_zero_or_pos t.size with h1 | h1
      · exact absurd ((toList_iff t).2 (List.length_eq_zero_iff.1 (by rw [← size_data]; exact h1))) he
      · exact h1
    have hw : wrap64 ((t.size : Int) - 1) = ((t.size - 1 : Nat) : Int) := by rw [w64 _ (by omega) (by omega)]; omega
    rw [if_neg he, hw, if_pos (by omega), if_pos (by omega)]
    have hlt : t.size - 1 < t.data.toList.length := by rw [← size_data]; omega
    have hne : t.data.toList ≠ [] := fun h => he ((toList_iff t).2 h)
    have hlast := List.dropLast_concat_getLast hne
    have hgl : t.data.toList.getLast hne = t.data.toList[t.size - 1]'hlt := by rw [List.getLast_eq_getElem]; rfl
    rw [bt_get t _ hlt, ← hgl]
    generalize hc : t.data.toList.getLast hne = c at hlast
    by_cases h58 : c = 58
    · subst h58
      obtain ⟨K, rfl⟩ : ∃ m, K = m + 1 := ⟨K - 1, by omega⟩
      rw [show (((58 : UInt8).toNat : Int) == 58) = true from rfl]
      simp only [curtilageref10_read.j0]
      have hex : t.extract 0 (wrap64 ((t.size : Int) - 1)).toNat = toB t.data.toList.dropLast := by
        apply ba_ext
        rw [hw, ext_data, toB_data, List.dropLast_eq_take, ← size_data]
        simp
      rw [if_pos trivial, hex, if_pos (by rw [hw]; omega), if_pos (by rw [hw]; omega)]
      have hms : (toB t.data.toList.dropLast).size ≤ 600 := by rw [size_data, toB_data, List.length_dropLast, ← size_data]; omega
      have hmp := mark_post t (toB t.data.toList.dropLast) (by rw [toB_data]; exact hlast.symm) (by omega)
      by_cases hm : (toB t.data.toList.dropLast).toList = ([] : List UInt8)
      · rw [if_pos hm]
        rw [named_nil _ hm] at hmp
        exact ⟨_, rfl, hmp⟩
      · rw [if_neg hm]
        have hg := rGood K (markL (toB t.data.toList.dropLast)) (by show (toB t.data.toList.dropLast).size ≤ 9223372036854775807; omega) (by show (0 : Nat) ≤ 9223372036854775807; omega) (by show (toB t.data.toList.dropLast).size + 0 + 100 ≤ K; omega)
        rw [mark_good _ hm] at hg
        refine ⟨_, (congrArg (fun o => Option.bind o _) hg).trans rfl, hmp⟩
    · have hcn : ((c.toNat : Int) == 58) = false := by
        rw [beq_eq_false_iff_ne]
        exact fun e => h58 (UInt8.toNat_inj.1 (by show c.toNat = 58; omega))
      rw [hcn]
      refine rRead_ins K (by omega) t hs (fun x hl => Classical.byContradiction fun h0 => ?_)
      rw [line_mark h0] at hl
      have := congrArg (fun l => l.getLast?) hl
      simp only [List.getLast?_append, List.getLast?_singleton, Option.or_some] at this
      rw [List.getLast?_eq_some_getLast hne, hc] at this
      exact h58 (Option.some.inj this).symm
end Go.Proofs.YtbelnkdbghggmaaGreatDoor.X
namespace Go.Proofs.YtbelnkdbghggmaaGreatDoor.X
open Go.RowKit Go.Proofs.YtbelnkdbghggmaaGreatDoorW.PrintWords Go.Proofs.YtbelnkdbghggmaaGreatDoorW.PrintLast

set_option linter.unusedVariables false
set_option linter.unusedSimpArgs false

theorem eqA40 (d : Nat) (w : World) (x0 y0 : ByteArray) (x1 y1 : Int) (x2 y2 : Int) (x3 y3 : Int) (x4 y4 : Int) (x5 y5 : Int) (x6 y6 : ByteArray) :
    (Op.equalIn (d + 3) 40 (.agg #[.string x0, .int .i64 x1, .int .i64 x2, .int .i64 x3, .int .i64 x4, .int .i32 x5, .string x6]) (.agg #[.string y0, .int .i64 y1, .int .i64 y2, .int .i64 y3, .int .i64 y4, .int .i32 y5, .string y6])).run Tryz.prog w = .ok (x0.toList == y0.toList && ((x1 == y1 && (x2 == y2 && (x3 == y3 && (x4 == y4 && (x5 == y5))))) && (x6.toList == y6.toList))) w := by
  refine eqA_of Tryz.underlying40 (by kernel_rfl) ?_
  refine eqf_cons (by rfl) (by go_simp; rfl) (by go_simp; rfl) (by go_simp) ?_
  refine eqf_cons (by rfl) (by go_simp) (by go_simp) (eqA38 (d + 0) w _ _ _ _ _ _ _ _ _ _) ?_
  exact eqf_last (by rfl) (by go_simp; rfl) (by go_simp; rfl) (by go_simp)
end Go.Proofs.YtbelnkdbghggmaaGreatDoor.X
namespace Go.Proofs.YtbelnkdbghggmaaGreatDoor.X
open Go.RowKit Go.Proofs.YtbelnkdbghggmaaGreatDoorW.PrintWords Go.Proofs.YtbelnkdbghggmaaGreatDoorW.PrintLast

set_option linter.unusedVariables false
set_option linter.unusedSimpArgs false

/-! ### asm_Read: function 6 -/
def asm_Read.l0 : Nat → ByteArray → List (S40) → Int → Option ((List (S40)) × Int × Int)
  | 0, _, _, _ => none
  | k + 1, x0, x5, x6 => if x0.toList = ([] : List UInt8) then (some (x5, 0, 0)) else ((strings_Cut.f x0 (⟨#[10]⟩ : ByteArray)).bind fun bt102 => (if bt102.1.toList = ([] : List UInt8) then (asm_Read.l0 k bt102.2.1 x5 (wrap64 (x6 + 1))) else ((asm_read.f k bt102.1).bind fun bt105 => (if bt105.2.2.2.2.2.2.2 = true then (if x5.length < 1954687338268 then (asm_Read.l0 k bt102.2.1 (x5 ++ [(⟨bt105.1, (⟨bt105.2.1, bt105.2.2.1, bt105.2.2.2.1, bt105.2.2.2.2.1, bt105.2.2.2.2.2.1⟩ : S38), bt105.2.2.2.2.2.2.1⟩ : S40)]) (wrap64 (x6 + 1))) else (none)) else (some (([] : List (S40)), x6, 11))))))
def asm_Read.f (k : Nat) (a0 : ByteArray) : Option ((List (S40)) × Int × Int) := asm_Read.l0 k a0 ([] : List (S40)) 0
set_option maxHeartbeats 8000000 in
set_option maxRecDepth 100000 in
theorem asm_Read.calls (k : Nat) (a0 : ByteArray) (r1 : List (S40)) (r2 : Int) (r3 : Int) (w : World) (HTAB0 : Env w) (h : asm_Read.f k a0 = some (r1, r2, r3)) :
    Calls Tryz.prog 6 #[.string a0] w fun e w' => ∃ v0_ : Value, e = .returned (.tuple #[v0_, .int .i64 r2, .int .i64 r3]) ∧ Kd.R k40 40 w' w.heap.size (fun _ => True) v0_ r1 ∧ Below w.heap.size w w' := by
  have HTAB := Q4 HTAB0
  clear HTAB0
  have hu40 := Tryz.underlying40
  have HB := Q4 (Below.refl w.heap.size w)
  have H : (asm_Read.l0 k a0 ([] : List (S40)) 0) = some (r1, r2, r3) := h
  clear h
  have H' := Q4 H
  clear H
  go_enter Tryz.func6, Tryz.ntmps6
  go_wp2
  go_loopg [0, 5, 6] k (fun kq v0 v5 v6 w' => ∃ (x0_1 : ByteArray) (x5_1 : List (S40)) (x6_1 : Int), v0 = .string x0_1 ∧ v6 = .int .i64 x6_1 ∧ Aside0 (asm_Read.l0 kq x0_1 x5_1 x6_1 = some (r1, r2, r3)) ∧ Aside0 (kq ≤ k) ∧ Aside0 (Kd.R k40 40 w' w.heap.size (fun _ => True) v5 x5_1) ∧ Aside0 (Below w.heap.size w w'))
  case atStart => exact ⟨(a0), (([] : List (S40))), (0), (by first|rfl|(simp; done)|(simp [*]; done)), (by first|rfl|(simp; done)|(simp [*]; done)), H', ⟨Nat.le_refl _⟩, ⟨by first|exact Kd.R_nil _ _ _ _ _|exact Kd.N_nil _ _ _ _ _|exact Kd.V_nil _ _ _ _ _|exact Kd.Q_nil _ _ _ _ _|exact Kd.S_nil _ _ _ _ _⟩, ⟨by repeat (first|(with_reducible first|exact HB.out|apply Q8|apply Q5|apply Q9)|exact HB.out)⟩⟩
  case round =>
    clear H'
    obtain ⟨x0_1, x5_1, x6_1, rfl, rfl, HA, HK1, HO_5, HB⟩ := hrel
    cases gk with
    | zero => exact absurd HA.out (by simp [asm_Read.l0])
    | succ k1 =>
      have H := HA.out
      clear HA
      simp only [asm_Read.l0] at H
      by_cases c2 : x0_1.toList = ([] : List UInt8)
      · rw [if_pos c2] at H
        have c2b0 : (x0_1.toList == ([] : List UInt8)) = true := Qm c2
        have c2b1 : (x0_1.toList != ([] : List UInt8)) = false := Qh c2
        clear c2
        simp only [Option.some.injEq, Prod.mk.injEq] at H
        obtain ⟨rfl, rfl, rfl⟩ := H
        go_wp2
        go_ret3
        exact ⟨_, by first|rfl|(simp [errW_none, errW_some] <;> rfl)|(simp [*, errW_none, errW_some] <;> rfl), by (with_reducible repeat (first|apply Kd.R_alloc|apply Kd.R_drewN|apply Kd.R_drew)); exact HO_5.out, by repeat (first|(with_reducible first|exact HB.out|apply Q8|apply Q5|apply Q9)|exact HB.out)⟩
      · rw [if_neg c2] at H
        have c2b0 : (x0_1.toList == ([] : List UInt8)) = false := Qk c2
        have c2b1 : (x0_1.toList != ([] : List UInt8)) = true := Ql c2
        replace H := Qi H
        obtain ⟨⟨t102, t103, t104⟩, A30, H⟩ := H
        try dsimp only at H
        have A3 := Q4 A30
        clear A30
        by_cases c4 : t102.toList = ([] : List UInt8)
        · rw [if_pos c4] at H
          have c4b0 : (t102.toList == ([] : List UInt8)) = true := Qm c4
          have c4b1 : (t102.toList != ([] : List UInt8)) = false := Qh c4
          clear c4
          have H' := Q4 H
          clear H
          go_wp2_with (first|((with_reducible refine gate_callee (f := 14) rfl ?_); refine gL (some 18) Tryz.func14 #[.string x0_1, .string (⟨#[10]⟩ : ByteArray)] ?_; (with_reducible refine (strings_Cut.calls x0_1 (⟨#[10]⟩ : ByteArray) t102 t103 t104 _ (env_mono HTAB.out (by repeat (first|(with_reducible first|exact HB.out|apply Q8|apply Q5|apply Q9)|exact HB.out))) A3.out).mono ?_); rintro e w5 ⟨rfl, hb⟩; refine ⟨_, rfl, ?_⟩; have n0_ := Q4 (Kd.R_below (rK HO_5) hb); have n1_ := Q4 (Qg (by repeat (first|(with_reducible first|exact HB.out|apply Q8|apply Q5|apply Q9)|exact HB.out)) hb); clear HO_5; clear HB; have HO_5 := n0_; have HB := n1_; clear n0_ n1_;(try clear hb);(try clear hb2);(try clear hk);(try clear hi)))
          go_roundg k1
          case measure => have := HK1.out; omega
          case rel => exact ⟨(t103), (x5_1), (wrap64 (x6_1 + 1)), (by first|rfl|(simp; done)|(simp [*]; done)), (by first|rfl|(simp; done)|(simp [*]; done)), H', ⟨by have := HK1.out; omega⟩, ⟨by (with_reducible repeat (first|apply Kd.R_alloc|apply Kd.R_drewN|apply Kd.R_drew)); exact HO_5.out⟩, ⟨by repeat (first|(with_reducible first|exact HB.out|apply Q8|apply Q5|apply Q9)|exact HB.out)⟩⟩
        · rw [if_neg c4] at H
          have c4b0 : (t102.toList == ([] : List UInt8)) = false := Qk c4
          have c4b1 : (t102.toList != ([] : List UInt8)) = true := Ql c4
          replace H := Qi H
          obtain ⟨⟨t105, t106, t107, t108, t109, t110, t111, t112⟩, A60, H⟩ := H
          try dsimp only at H
          have A6 := Q4 A60
          clear A60
          by_cases c7 : t112 = true
          · subst c7
            rw [if_pos rfl] at H
            by_cases c8 : x5_1.length < 1954687338268
            · rw [if_pos c8] at H
              have LMc8 := Q4 c8
              clear c8
              obtain ⟨y114, hy114⟩ : ∃ y_ : List (S40), y_ = (x5_1 ++ [(⟨t105, (⟨t106, t107, t108, t109, t110⟩ : S38), t111⟩ : S40)]) := ⟨_, rfl⟩
              replace H : (asm_Read.l0 k1 t103 y114 (wrap64 (x6_1 + 1))) = some (r1, r2, r3) := by first|(rw [hy114]; with_reducible exact H)|(have H2_ := (Option.bind_some _ _).symm.trans H; rw [hy114]; with_reducible exact H2_)|(have H2_ := (Option.bind_some _ _).symm.trans H; with_reducible exact H2_) | with_reducible exact H|(rw [hy114]; exact H)|exact H
              have Ny114 := Q4 hy114
              clear hy114
              have H' := Q4 H
              clear H
              go_wp2_with (first|((with_reducible refine gate_callee (f := 14) rfl ?_); refine gL (some 18) Tryz.func14 #[.string x0_1, .string (⟨#[10]⟩ : ByteArray)] ?_; (with_reducible refine (strings_Cut.calls x0_1 (⟨#[10]⟩ : ByteArray) t102 t103 t104 _ (env_mono HTAB.out (by repeat (first|(with_reducible first|exact HB.out|apply Q8|apply Q5|apply Q9)|exact HB.out))) A3.out).mono ?_); rintro e w9 ⟨rfl, hb⟩; refine ⟨_, rfl, ?_⟩; have n0_ := Q4 (Kd.R_below (rK HO_5) hb); have n1_ := Q4 (Qg (by repeat (first|(with_reducible first|exact HB.out|apply Q8|apply Q5|apply Q9)|exact HB.out)) hb); clear HO_5; clear HB; have HO_5 := n0_; have HB := n1_; clear n0_ n1_;(try clear hb);(try clear hb2);(try clear hk);(try clear hi))|((with_reducible refine gate_callee (f := 15) rfl ?_); refine gL (some 27) Tryz.func15 #[.string t102] ?_; (with_reducible refine (asm_read.calls k1 t102 t105 t106 t107 t108 t109 t110 t111 true _ (env_mono HTAB.out (by repeat (first|(with_reducible first|exact HB.out|apply Q8|apply Q5|apply Q9)|exact HB.out))) A6.out).mono ?_); rintro e w10 ⟨rfl, hb⟩; refine ⟨_, rfl, ?_⟩; have n0_ := Q4 (Kd.R_below (rK HO_5) hb); have n1_ := Q4 (Qg (by repeat (first|(with_reducible first|exact HB.out|apply Q8|apply Q5|apply Q9)|exact HB.out)) hb); clear HO_5; clear HB; have HO_5 := n0_; have HB := n1_; clear n0_ n1_;(try clear hb);(try clear hb2);(try clear hk);(try clear hi))|((with_reducible refine gate_dst (N := 10) rfl ?_); refine box_event ?hg (N := 10) ?hd (cs := #[.string (⟨#[]⟩ : ByteArray), .int .i64 0, .int .i64 0, .int .i64 0, .int .i64 0, .int .i32 0, .string (⟨#[]⟩ : ByteArray)]) (t := 40) ?hr ?_; (case hd => rfl); (case hg => rfl); (case hr => first|(go_simp; done)|(go_simp; rfl)); intro gb113 hg w11 hbox hb; have n0_ := Q4 (Kd.R_below (Kd.R_elderB (rK HO_5) gb113 (Nat.le_of_eq hg.symm)) hb); have n1_ := Q4 (Qg (by repeat (first|(with_reducible first|exact HB.out|apply Q8|apply Q5|apply Q9)|exact HB.out)) hb); have n2_ := Q4 (hbox); have n3_ := Q4 ((by rw [hg]; exact bZ : w.heap.size ≤ gb113)); have n4_ := Q4 ((by rw [hg]; exact bZ : w.heap.size ≤ gb113)); clear HO_5; clear HB; have HO_5 := n0_; have HB := n1_; have BK113 := n2_; have GW113 := n3_; have GE113 := n4_; clear n0_ n1_ n2_ n3_ n4_; clear hb hbox hg; have hcz12_0 : w11.cell? ⟨gb113, 0, none⟩ = some (.string (⟨#[]⟩ : ByteArray)) := (Qe BK113.out 0).trans rfl; have hcz12_1 : w11.cell? ⟨gb113, 1, none⟩ = some (.int .i64 0) := (Qe BK113.out 1).trans rfl; have hcz12_2 : w11.cell? ⟨gb113, 2, none⟩ = some (.int .i64 0) := (Qe BK113.out 2).trans rfl; have hcz12_3 : w11.cell? ⟨gb113, 3, none⟩ = some (.int .i64 0) := (Qe BK113.out 3).trans rfl; have hcz12_4 : w11.cell? ⟨gb113, 4, none⟩ = some (.int .i64 0) := (Qe BK113.out 4).trans rfl; have hcz12_5 : w11.cell? ⟨gb113, 5, none⟩ = some (.int .i32 0) := (Qe BK113.out 5).trans rfl; have hcz12_6 : w11.cell? ⟨gb113, 6, none⟩ = some (.string (⟨#[]⟩ : ByteArray)) := (Qe BK113.out 6).trans rfl; have hfz12_0 := Qd BK113.out 0; have hfz12_1 := Qd BK113.out 1; have hfz12_2 := Qd BK113.out 2; have hfz12_3 := Qd BK113.out 3; have hfz12_4 := Qd BK113.out 4; have hfz12_5 := Qd BK113.out 5; have hfz12_6 := Qd BK113.out 6)|((with_reducible refine gate_builtin (b := .append) (xs := #[.tmp 33, .tmp 35]) rfl ?_); at_builtin; refine Kd.R_append k40 (w0 := w) w.heap.size rfl (.tmp 33) (.tmp 35) 23 40 (.agg #[(.string ⟨#[]⟩), (.int .i64 0), (.int .i64 0), (.int .i64 0), (.int .i64 0), (.int .i32 0), (.string ⟨#[]⟩)]) 72 rfl Tryz.underlying23 info40 rfl (by decide) (by omega) u5 x5_1 (⟨t105, (⟨t106, t107, t108, t109, t110⟩ : S38), t111⟩ : S40) [.string t105, .int .i64 t106, .int .i64 t107, .int .i64 t108, .int .i64 t109, .int .i32 t110, .string t111] (fun k_ => k_ ≠ gb113) (fun _ => False) rfl (by first|(go_simp; done)|(go_simp; rfl)) ?aP (fun _ hk => hk.elim) ?aF ?aO ?aB ?aS ?aL ?_; (case aP => exact k40_mkM _ _ _ (⟨t105, (⟨t106, t107, t108, t109, t110⟩ : S38), t111⟩ : S40)); (case aB => exact (by repeat (first|(with_reducible first|exact HB.out|apply Q8|apply Q5|apply Q9|refine Q6 ?_ GE113.out)|exact HB.out))); (case aF => exact (fun k_ hk => Kd.freshB (g := gb113) (o := .cells #[.string t105, .int .i64 t106, .int .i64 t107, .int .i64 t108, .int .i64 t109, .int .i32 t110, .string t111] 40 (0, 0)) (by (with_reducible repeat (first|refine Qa ?_ _|refine Qb ?_|refine Q7 ?_ _)); refine blk_put (cs := #[.string t105, .int .i64 t106, .int .i64 t107, .int .i64 t108, .int .i64 t109, .int .i32 t110, .string (⟨#[]⟩ : ByteArray)]) ?_ 6 _ rfl; (with_reducible repeat (first|refine Qa ?_ _|refine Qb ?_|refine Q7 ?_ _)); refine blk_put (cs := #[.string t105, .int .i64 t106, .int .i64 t107, .int .i64 t108, .int .i64 t109, .int .i32 0, .string (⟨#[]⟩ : ByteArray)]) ?_ 5 _ rfl; (with_reducible repeat (first|refine Qa ?_ _|refine Qb ?_|refine Q7 ?_ _)); refine blk_put (cs := #[.string t105, .int .i64 t106, .int .i64 t107, .int .i64 t108, .int .i64 0, .int .i32 0, .string (⟨#[]⟩ : ByteArray)]) ?_ 4 _ rfl; (with_reducible repeat (first|refine Qa ?_ _|refine Qb ?_|refine Q7 ?_ _)); refine blk_put (cs := #[.string t105, .int .i64 t106, .int .i64 t107, .int .i64 0, .int .i64 0, .int .i32 0, .string (⟨#[]⟩ : ByteArray)]) ?_ 3 _ rfl; (with_reducible repeat (first|refine Qa ?_ _|refine Qb ?_|refine Q7 ?_ _)); refine blk_put (cs := #[.string t105, .int .i64 t106, .int .i64 0, .int .i64 0, .int .i64 0, .int .i32 0, .string (⟨#[]⟩ : ByteArray)]) ?_ 2 _ rfl; (with_reducible repeat (first|refine Qa ?_ _|refine Qb ?_|refine Q7 ?_ _)); refine blk_put (cs := #[.string t105, .int .i64 0, .int .i64 0, .int .i64 0, .int .i64 0, .int .i32 0, .string (⟨#[]⟩ : ByteArray)]) ?_ 1 _ rfl; (with_reducible repeat (first|refine Qa ?_ _|refine Qb ?_|refine Q7 ?_ _)); refine blk_put (cs := #[.string (⟨#[]⟩ : ByteArray), .int .i64 0, .int .i64 0, .int .i64 0, .int .i64 0, .int .i32 0, .string (⟨#[]⟩ : ByteArray)]) ?_ 0 _ rfl; (with_reducible repeat (first|refine Qa ?_ _|refine Qb ?_|refine Q7 ?_ _)); exact BK113.out) k_ hk)); (case aO => exact (by (with_reducible repeat (first|apply Kd.R_alloc|apply Kd.R_drewN|apply Kd.R_drew)); exact Kd.R_mono (Kd.R_far (p := ⟨gb113, 6, none⟩) (Kd.R_far (p := ⟨gb113, 5, none⟩) (Kd.R_far (p := ⟨gb113, 4, none⟩) (Kd.R_far (p := ⟨gb113, 3, none⟩) (Kd.R_far (p := ⟨gb113, 2, none⟩) (Kd.R_far (p := ⟨gb113, 1, none⟩) (Kd.R_far (p := ⟨gb113, 0, none⟩) (Kd.R_mono HO_5.out (fun k_ hk => (⟨hk, hk.2⟩ : _ ∧ k_ ≠ gb113))) (fun _ hk => hk.2) (.string t105)) (fun _ hk => hk.2) (.int .i64 t106)) (fun _ hk => hk.2) (.int .i64 t107)) (fun _ hk => hk.2) (.int .i64 t108)) (fun _ hk => hk.2) (.int .i64 t109)) (fun _ hk => hk.2) (.int .i32 t110)) (fun _ hk => hk.2) (.string t111)) (fun _ hk => hk.1.2))); (case aS => exact (below_size (by repeat (first|(with_reducible first|exact HB.out|apply Q8|apply Q5|apply Q9|refine Q6 ?_ GE113.out)|exact HB.out)))); (case aL => have := LMc8.out; omega); intro v115 w13 ho hb hg hat; rw [← Ny114.out] at ho; have n0_ := Q4 (blk_grown (g := gb113) (o := .cells #[.string t105, .int .i64 t106, .int .i64 t107, .int .i64 t108, .int .i64 t109, .int .i32 t110, .string t111] 40 (0, 0)) (by (with_reducible repeat (first|refine Qa ?_ _|refine Qb ?_|refine Q7 ?_ _)); refine blk_put (cs := #[.string t105, .int .i64 t106, .int .i64 t107, .int .i64 t108, .int .i64 t109, .int .i32 t110, .string (⟨#[]⟩ : ByteArray)]) ?_ 6 _ rfl; (with_reducible repeat (first|refine Qa ?_ _|refine Qb ?_|refine Q7 ?_ _)); refine blk_put (cs := #[.string t105, .int .i64 t106, .int .i64 t107, .int .i64 t108, .int .i64 t109, .int .i32 0, .string (⟨#[]⟩ : ByteArray)]) ?_ 5 _ rfl; (with_reducible repeat (first|refine Qa ?_ _|refine Qb ?_|refine Q7 ?_ _)); refine blk_put (cs := #[.string t105, .int .i64 t106, .int .i64 t107, .int .i64 t108, .int .i64 0, .int .i32 0, .string (⟨#[]⟩ : ByteArray)]) ?_ 4 _ rfl; (with_reducible repeat (first|refine Qa ?_ _|refine Qb ?_|refine Q7 ?_ _)); refine blk_put (cs := #[.string t105, .int .i64 t106, .int .i64 t107, .int .i64 0, .int .i64 0, .int .i32 0, .string (⟨#[]⟩ : ByteArray)]) ?_ 3 _ rfl; (with_reducible repeat (first|refine Qa ?_ _|refine Qb ?_|refine Q7 ?_ _)); refine blk_put (cs := #[.string t105, .int .i64 t106, .int .i64 0, .int .i64 0, .int .i64 0, .int .i32 0, .string (⟨#[]⟩ : ByteArray)]) ?_ 2 _ rfl; (with_reducible repeat (first|refine Qa ?_ _|refine Qb ?_|refine Q7 ?_ _)); refine blk_put (cs := #[.string t105, .int .i64 0, .int .i64 0, .int .i64 0, .int .i64 0, .int .i32 0, .string (⟨#[]⟩ : ByteArray)]) ?_ 1 _ rfl; (with_reducible repeat (first|refine Qa ?_ _|refine Qb ?_|refine Q7 ?_ _)); refine blk_put (cs := #[.string (⟨#[]⟩ : ByteArray), .int .i64 0, .int .i64 0, .int .i64 0, .int .i64 0, .int .i32 0, .string (⟨#[]⟩ : ByteArray)]) ?_ 0 _ rfl; (with_reducible repeat (first|refine Qa ?_ _|refine Qb ?_|refine Q7 ?_ _)); exact BK113.out) hg (Kd.R_away HO_5.out (fun _ hk => hk.2))); have n1_ := Q4 (hb); have n2_ := Q4 (ho); clear BK113; clear HB; clear HO_5; have BK113 := n0_; have HB := n1_; have HO116 := n2_; clear n0_ n1_ n2_; clear ho hb hg hat))
              go_roundg k1
              case measure => have := HK1.out; omega
              case rel => exact ⟨(t103), (y114), (wrap64 (x6_1 + 1)), (by first|rfl|(simp; done)|(simp [*]; done)), (by first|rfl|(simp; done)|(simp [*]; done)), H', ⟨by have := HK1.out; omega⟩, ⟨by (with_reducible repeat (first|apply Kd.R_alloc|apply Kd.R_drewN|apply Kd.R_drew)); exact Kd.R_mono HO116.out (fun _ hk => trivial)⟩, ⟨by repeat (first|(with_reducible first|exact HB.out|apply Q8|apply Q5|apply Q9|refine Q6 ?_ GE113.out)|exact HB.out)⟩⟩
            · rw [if_neg c8] at H
              exact absurd H (by simp)
          · replace c7 := Bool.eq_false_iff.mpr c7
            subst c7
            rw [if_neg (show ¬ (false = true) by decide)] at H
            simp only [Option.some.injEq, Prod.mk.injEq] at H
            obtain ⟨rfl, rfl, rfl⟩ := H
            go_wp2_with (first|((with_reducible refine gate_callee (f := 14) rfl ?_); refine gL (some 18) Tryz.func14 #[.string x0_1, .string (⟨#[10]⟩ : ByteArray)] ?_; (with_reducible refine (strings_Cut.calls x0_1 (⟨#[10]⟩ : ByteArray) t102 t103 t104 _ (env_mono HTAB.out (by repeat (first|(with_reducible first|exact HB.out|apply Q8|apply Q5|apply Q9)|exact HB.out))) A3.out).mono ?_); rintro e w14 ⟨rfl, hb⟩; refine ⟨_, rfl, ?_⟩; have n0_ := Q4 (Kd.R_below (rK HO_5) hb); have n1_ := Q4 (Qg (by repeat (first|(with_reducible first|exact HB.out|apply Q8|apply Q5|apply Q9)|exact HB.out)) hb); clear HO_5; clear HB; have HO_5 := n0_; have HB := n1_; clear n0_ n1_;(try clear hb);(try clear hb2);(try clear hk);(try clear hi))|((with_reducible refine gate_callee (f := 15) rfl ?_); refine gL (some 27) Tryz.func15 #[.string t102] ?_; (with_reducible refine (asm_read.calls k1 t102 t105 t106 t107 t108 t109 t110 t111 false _ (env_mono HTAB.out (by repeat (first|(with_reducible first|exact HB.out|apply Q8|apply Q5|apply Q9)|exact HB.out))) A6.out).mono ?_); rintro e w15 ⟨rfl, hb⟩; refine ⟨_, rfl, ?_⟩; have n0_ := Q4 (Kd.R_below (rK HO_5) hb); have n1_ := Q4 (Qg (by repeat (first|(with_reducible first|exact HB.out|apply Q8|apply Q5|apply Q9)|exact HB.out)) hb); clear HO_5; clear HB; have HO_5 := n0_; have HB := n1_; clear n0_ n1_;(try clear hb);(try clear hb2);(try clear hk);(try clear hi))|((with_reducible refine gate_dst (N := 10) rfl ?_); refine box_event ?hg (N := 10) ?hd (cs := #[.string (⟨#[]⟩ : ByteArray), .int .i64 0, .int .i64 0, .int .i64 0, .int .i64 0, .int .i32 0, .string (⟨#[]⟩ : ByteArray)]) (t := 40) ?hr ?_; (case hd => rfl); (case hg => rfl); (case hr => first|(go_simp; done)|(go_simp; rfl)); intro gb113 hg w16 hbox hb; have n0_ := Q4 (Kd.R_below (Kd.R_elderB (rK HO_5) gb113 (Nat.le_of_eq hg.symm)) hb); have n1_ := Q4 (Qg (by repeat (first|(with_reducible first|exact HB.out|apply Q8|apply Q5|apply Q9)|exact HB.out)) hb); have n2_ := Q4 (hbox); have n3_ := Q4 ((by rw [hg]; exact bZ : w.heap.size ≤ gb113)); have n4_ := Q4 ((by rw [hg]; exact bZ : w.heap.size ≤ gb113)); clear HO_5; clear HB; have HO_5 := n0_; have HB := n1_; have BK113 := n2_; have GW113 := n3_; have GE113 := n4_; clear n0_ n1_ n2_ n3_ n4_; clear hb hbox hg; have hcz17_0 : w16.cell? ⟨gb113, 0, none⟩ = some (.string (⟨#[]⟩ : ByteArray)) := (Qe BK113.out 0).trans rfl; have hcz17_1 : w16.cell? ⟨gb113, 1, none⟩ = some (.int .i64 0) := (Qe BK113.out 1).trans rfl; have hcz17_2 : w16.cell? ⟨gb113, 2, none⟩ = some (.int .i64 0) := (Qe BK113.out 2).trans rfl; have hcz17_3 : w16.cell? ⟨gb113, 3, none⟩ = some (.int .i64 0) := (Qe BK113.out 3).trans rfl; have hcz17_4 : w16.cell? ⟨gb113, 4, none⟩ = some (.int .i64 0) := (Qe BK113.out 4).trans rfl; have hcz17_5 : w16.cell? ⟨gb113, 5, none⟩ = some (.int .i32 0) := (Qe BK113.out 5).trans rfl; have hcz17_6 : w16.cell? ⟨gb113, 6, none⟩ = some (.string (⟨#[]⟩ : ByteArray)) := (Qe BK113.out 6).trans rfl; have hfz17_0 := Qd BK113.out 0; have hfz17_1 := Qd BK113.out 1; have hfz17_2 := Qd BK113.out 2; have hfz17_3 := Qd BK113.out 3; have hfz17_4 := Qd BK113.out 4; have hfz17_5 := Qd BK113.out 5; have hfz17_6 := Qd BK113.out 6))
            go_ret3
            exact ⟨_, by first|rfl|(simp [errW_none, errW_some] <;> rfl)|(simp [*, errW_none, errW_some] <;> rfl), by first|exact Kd.R_nil _ _ _ _ _|exact Kd.N_nil _ _ _ _ _|exact Kd.V_nil _ _ _ _ _|exact Kd.Q_nil _ _ _ _ _|exact Kd.S_nil _ _ _ _ _, by repeat (first|(with_reducible first|exact HB.out|apply Q8|apply Q5|apply Q9|refine Q6 ?_ GE113.out)|exact HB.out)⟩

/-! ### curtilagelaw10_awake: function 5 -/
def curtilagelaw10_awake.f (k : Nat)  : Option (Bool) := (asm_Put.f (([(⟨(⟨#[97]⟩ : ByteArray), (⟨0, 0, 0, 0, 0⟩ : S38), (⟨#[]⟩ : ByteArray)⟩ : S40), (⟨(⟨#[]⟩ : ByteArray), (⟨18, 0, 0, 0, 0⟩ : S38), (⟨#[97]⟩ : ByteArray)⟩ : S40)] : List (S40)))).bind fun bt120 => ((asm_Put.f (([(⟨(⟨#[]⟩ : ByteArray), (⟨18, 0, 0, 0, 0⟩ : S38), (⟨#[98]⟩ : ByteArray)⟩ : S40)] : List (S40)))).bind fun bt128 => ((asm_Read.f k (⟨#[97, 58]⟩ : ByteArray)).bind fun bt133 => (if bt120.2.2 = 0 then (if (bt120.1.length : Int) = 1 then ((asm_List.f bt120.1).bind fun t138 => (if t138.toList = ([106, 109, 112, 32, 45, 49, 10] : List UInt8) then (if bt128.2.1 = 0 then (if bt128.2.2 = 1 then (if bt133.2.2 = 0 then (if (bt133.1.length : Int) = 1 then (if 0 < (bt133.1.length : Int) then (some (((rd_T40 bt133.1 0).f0).toList == ([97] : List UInt8))) else (none)) else (some false)) else (some false)) else (some false)) else (some false)) else (some false))) else (some false)) else (some false))))
set_option maxHeartbeats 8000000 in
set_option maxRecDepth 100000 in
theorem curtilagelaw10_awake.calls (k : Nat)  (w : World) (HTAB0 : Env w) (h : curtilagelaw10_awake.f k  = some true) :
  Calls Tryz.prog 5 #[] w fun e w' => e = .returned (.bool true) ∧ Below w.heap.size w w' := by
 have HTAB := Q4 HTAB0
 clear HTAB0
 have hu40 := Tryz.underlying40
 have hu38 := Tryz.underlying38
 have HB := Q4 (Below.refl w.heap.size w)
 have H := h
 unfold curtilagelaw10_awake.f at H
 clear h
 obtain ⟨y117, hy117⟩ : ∃ y_ : List (S40), y_ = (([(⟨(⟨#[97]⟩ : ByteArray), (⟨0, 0, 0, 0, 0⟩ : S38), (⟨#[]⟩ : ByteArray)⟩ : S40), (⟨(⟨#[]⟩ : ByteArray), (⟨18, 0, 0, 0, 0⟩ : S38), (⟨#[97]⟩ : ByteArray)⟩ : S40)] : List (S40))) := ⟨_, rfl⟩
 replace H : ((asm_Put.f y117).bind fun bt120 => ((asm_Put.f (([(⟨(⟨#[]⟩ : ByteArray), (⟨18, 0, 0, 0, 0⟩ : S38), (⟨#[98]⟩ : ByteArray)⟩ : S40)] : List (S40)))).bind fun bt128 => ((asm_Read.f k (⟨#[97, 58]⟩ : ByteArray)).bind fun bt133 => (if bt120.2.2 = 0 then (if (bt120.1.length : Int) = 1 then ((asm_List.f bt120.1).bind fun t138 => (if t138.toList = ([106, 109, 112, 32, 45, 49, 10] : List UInt8) then (if bt128.2.1 = 0 then (if bt128.2.2 = 1 then (if bt133.2.2 = 0 then (if (bt133.1.length : Int) = 1 then (if 0 < (bt133.1.length : Int) then (some (((rd_T40 bt133.1 0).f0).toList == ([97] : List UInt8))) else (none)) else (some false)) else (some false)) else (some false)) else (some false)) else (some false))) else (some false)) else (some false))))) = some true := by first|(rw [hy117]; with_reducible exact H)|(have H2_ := (Option.bind_some _ _).symm.trans H; rw [hy117]; with_reducible exact H2_)|(have H2_ := (Option.bind_some _ _).symm.trans H; with_reducible exact H2_) | with_reducible exact H|(rw [hy117]; exact H)|exact H
 have Ny117 := Q4 hy117
 clear hy117
 replace H := Qi H
 obtain ⟨⟨t120, t121, t122⟩, A10, H⟩ := H
 try dsimp only at H
 have A1 := Q4 A10
 clear A10
 obtain ⟨y125, hy125⟩ : ∃ y_ : List (S40), y_ = (([(⟨(⟨#[]⟩ : ByteArray), (⟨18, 0, 0, 0, 0⟩ : S38), (⟨#[98]⟩ : ByteArray)⟩ : S40)] : List (S40))) := ⟨_, rfl⟩
 replace H : ((asm_Put.f y125).bind fun bt128 => ((asm_Read.f k (⟨#[97, 58]⟩ : ByteArray)).bind fun bt133 => (if t122 = 0 then (if (t120.length : Int) = 1 then ((asm_List.f t120).bind fun t138 => (if t138.toList = ([106, 109, 112, 32, 45, 49, 10] : List UInt8) then (if bt128.2.1 = 0 then (if bt128.2.2 = 1 then (if bt133.2.2 = 0 then (if (bt133.1.length : Int) = 1 then (if 0 < (bt133.1.length : Int) then (some (((rd_T40 bt133.1 0).f0).toList == ([97] : List UInt8))) else (none)) else (some false)) else (some false)) else (some false)) else (some false)) else (some false))) else (some false)) else (some false)))) = some true := by first|(rw [hy125]; with_reducible exact H)|(have H2_ := (Option.bind_some _ _).symm.trans H; rw [hy125]; with_reducible exact H2_)|(have H2_ := (Option.bind_some _ _).symm.trans H; with_reducible exact H2_) | with_reducible exact H|(rw [hy125]; exact H)|exact H
 have Ny125 := Q4 hy125
 clear hy125
 replace H := Qi H
 obtain ⟨⟨t128, t129, t130⟩, A20, H⟩ := H
 try dsimp only at H
 have A2 := Q4 A20
 clear A20
 replace H := Qi H
 obtain ⟨⟨t133, t134, t135⟩, A30, H⟩ := H
 try dsimp only at H
 have A3 := Q4 A30
 clear A30
 by_cases c4 : t122 = 0
 ·rw [if_pos c4] at H
  have c4b0 : (t122 == 0) = true := Qm c4
  have c4b1 : (t122 != 0) = false := Qh c4
  clear c4
  by_cases c5 : (t120.length : Int) = 1
  ·rw [if_pos c5] at H
   have c5b0 : ((t120.length : Int) == 1) = true := Qm c5
   have c5b1 : ((t120.length : Int) != 1) = false := Qh c5
   clear c5
   replace H := Qi H
   obtain ⟨t138, A60, H⟩ := H
   try dsimp only at H
   have A6 := Q4 A60
   clear A60
   by_cases c7 : t138.toList = ([106, 109, 112, 32, 45, 49, 10] : List UInt8)
   ·rw [if_pos c7] at H
    have c7b0 : (t138.toList == ([106, 109, 112, 32, 45, 49, 10] : List UInt8)) = true := Qm c7
    have c7b1 : (t138.toList != ([106, 109, 112, 32, 45, 49, 10] : List UInt8)) = false := Qh c7
    clear c7
    by_cases c8 : t129 = 0
    ·rw [if_pos c8] at H
     have c8b0 : (t129 == 0) = true := Qm c8
     have c8b1 : (t129 != 0) = false := Qh c8
     clear c8
     by_cases c9 : t130 = 1
     ·rw [if_pos c9] at H
      have c9b0 : (t130 == 1) = true := Qm c9
      have c9b1 : (t130 != 1) = false := Qh c9
      clear c9
      by_cases c10 : t135 = 0
      ·rw [if_pos c10] at H
       have c10b0 : (t135 == 0) = true := Qm c10
       have c10b1 : (t135 != 0) = false := Qh c10
       clear c10
       by_cases c11 : (t133.length : Int) = 1
       ·rw [if_pos c11] at H
        have c11b0 : ((t133.length : Int) == 1) = true := Qm c11
        have c11b1 : ((t133.length : Int) != 1) = false := Qh c11
        clear c11
        by_cases c12 : 0 < (t133.length : Int)
        ·rw [if_pos c12] at H
         have c12b0 : decide (0 < (t133.length : Int)) = true := Qj c12
         have c12b1 : decide (0 < t133.length) = true := Qj (by omega)
         clear c12
         have HE_ := Qn H; rw [← HE_]; clear HE_ H
         go_enter Tryz.func5, Tryz.ntmps5
         go_wp2_with (first|((with_reducible refine gate_dst (N := 14) rfl ?_); (try (refine gate_guard (by rfl) ?_; dsimp only)); refine Kd.R_lit k40 _ 40 ?hg (N := 14) ?hd (xs := ([(⟨(⟨#[97]⟩ : ByteArray), (⟨0, 0, 0, 0, 0⟩ : S38), (⟨#[]⟩ : ByteArray)⟩ : S40), (⟨(⟨#[]⟩ : ByteArray), (⟨18, 0, 0, 0, 0⟩ : S38), (⟨#[97]⟩ : ByteArray)⟩ : S40)] : List (S40))) (inner := [.string (⟨#[97]⟩ : ByteArray), .int .i64 0, .int .i64 0, .int .i64 0, .int .i64 0, .int .i32 0, .string (⟨#[]⟩ : ByteArray), .string (⟨#[]⟩ : ByteArray), .int .i64 18, .int .i64 0, .int .i64 0, .int .i64 0, .int .i32 0, .string (⟨#[97]⟩ : ByteArray)]) (ok := fun _ => True) (okp := fun _ => True) ?hr ?hp (fun _ hk => hk) trivial (Below.refl _ _) (Nat.le_refl _) (by simp) ?_; (case hd => rfl); (case hg => rfl); (case hr => first|(go_simp; done)|(go_simp; rfl)); (case hp => exact (Reps.c7 (show Kd.M k40 _ _ _ (⟨(⟨#[97]⟩ : ByteArray), (⟨0, 0, 0, 0, 0⟩ : S38), (⟨#[]⟩ : ByteArray)⟩ : S40) [.string (⟨#[97]⟩ : ByteArray), .int .i64 0, .int .i64 0, .int .i64 0, .int .i64 0, .int .i32 0, .string (⟨#[]⟩ : ByteArray)] from (k40_mkM _ _ _ (⟨(⟨#[97]⟩ : ByteArray), (⟨0, 0, 0, 0, 0⟩ : S38), (⟨#[]⟩ : ByteArray)⟩ : S40) )) (Reps.c7 (show Kd.M k40 _ _ _ (⟨(⟨#[]⟩ : ByteArray), (⟨18, 0, 0, 0, 0⟩ : S38), (⟨#[97]⟩ : ByteArray)⟩ : S40) [.string (⟨#[]⟩ : ByteArray), .int .i64 18, .int .i64 0, .int .i64 0, .int .i64 0, .int .i32 0, .string (⟨#[97]⟩ : ByteArray)] from (k40_mkM _ _ _ (⟨(⟨#[]⟩ : ByteArray), (⟨18, 0, 0, 0, 0⟩ : S38), (⟨#[97]⟩ : ByteArray)⟩ : S40) )) (Reps.none _ _)))); intro v118 w13 ho14 hb hg_ hnew_; clear hg_ hnew_; (first | rw [← Ny117.out] at ho14|(simp only [Int.reduceToNat] at ho14; rw [← Ny117.out] at ho14)); have n0_ := Q4 (Kd.R_lower ho14 bZ); have n1_ := Q4 (Qg (by repeat (first|(with_reducible first|exact HB.out|apply Q8|apply Q5|apply Q9)|exact HB.out)) hb); clear HB; have HO119 := n0_; have HB := n1_; clear n0_ n1_; clear hb ho14; obtain ⟨Ao15, co15, eo15⟩ := Kd.R_slice HO119.out; subst eo15)|((with_reducible refine gate_callee (f := 12) rfl ?_); refine gL (some 15) Tryz.func12 #[.slice Ao15 y117.length co15] ?_; (with_reducible refine (asm_Put.calls _ _ y117 t120 t121 t122 _ ?side1 ?side2 A1.out).mono ?_); (case side1 => repeat (first|exact (Kd.R_reads' HO119.out).2.2|(with_reducible refine Kd.C_alloc ?_ _)|(with_reducible refine Kd.C_drewN ?_ _)|(with_reducible refine Kd.C_drew ?_))); (case side2 => exact (Kd.R_reads' HO119.out).2.1); rintro e w16 ⟨v123, rfl, ho0, hb⟩; refine ⟨_, rfl, ?_⟩; have n0_ := Q4 (Kd.R_below (rK HO119) hb); have n1_ := Q4 (Kd.R_lower ho0 bZ); have n2_ := Q4 (Qg (by repeat (first|(with_reducible first|exact HB.out|apply Q8|apply Q5|apply Q9)|exact HB.out)) hb); clear HO119; clear HB; have HO119 := n0_; have HO124 := n1_; have HB := n2_; clear n0_ n1_ n2_;(try clear hb);(try clear hb2);(try clear hk);(try clear hi);(try clear ho0))|((with_reducible refine gate_dst (N := 22) rfl ?_); (try (refine gate_guard (by rfl) ?_; dsimp only)); refine Kd.R_lit k40 _ 40 ?hg (N := 22) ?hd (xs := ([(⟨(⟨#[]⟩ : ByteArray), (⟨18, 0, 0, 0, 0⟩ : S38), (⟨#[98]⟩ : ByteArray)⟩ : S40)] : List (S40))) (inner := [.string (⟨#[]⟩ : ByteArray), .int .i64 18, .int .i64 0, .int .i64 0, .int .i64 0, .int .i32 0, .string (⟨#[98]⟩ : ByteArray)]) (ok := fun _ => True) (okp := fun _ => True) ?hr ?hp (fun _ hk => hk) trivial (Below.refl _ _) (Nat.le_refl _) (by simp) ?_; (case hd => rfl); (case hg => rfl); (case hr => first|(go_simp; done)|(go_simp; rfl)); (case hp => exact (Reps.c7 (show Kd.M k40 _ _ _ (⟨(⟨#[]⟩ : ByteArray), (⟨18, 0, 0, 0, 0⟩ : S38), (⟨#[98]⟩ : ByteArray)⟩ : S40) [.string (⟨#[]⟩ : ByteArray), .int .i64 18, .int .i64 0, .int .i64 0, .int .i64 0, .int .i32 0, .string (⟨#[98]⟩ : ByteArray)] from (k40_mkM _ _ _ (⟨(⟨#[]⟩ : ByteArray), (⟨18, 0, 0, 0, 0⟩ : S38), (⟨#[98]⟩ : ByteArray)⟩ : S40) )) (Reps.none _ _))); intro v126 w17 ho18 hb hg_ hnew_; clear hg_ hnew_; (first | rw [← Ny125.out] at ho18|(simp only [Int.reduceToNat] at ho18; rw [← Ny125.out] at ho18)); have n0_ := Q4 (Kd.R_elder' (rK HO119) (Kd.R_base ho18) hb); have n1_ := Q4 (Kd.R_below (rK HO124) hb); have n2_ := Q4 (Kd.R_lower (Kd.R_new' ho18 (Kd.R_lt (rK HO119))) bZ); have n3_ := Q4 (Qg (by repeat (first|(with_reducible first|exact HB.out|apply Q8|apply Q5|apply Q9)|exact HB.out)) hb); clear HO119; clear HO124; clear HB; have HO119 := n0_; have HO124 := n1_; have HO127 := n2_; have HB := n3_; clear n0_ n1_ n2_ n3_; clear hb ho18; obtain ⟨Ao19, co19, eo19⟩ := Kd.R_slice HO127.out; subst eo19)|((with_reducible refine gate_callee (f := 12) rfl ?_); refine gL (some 23) Tryz.func12 #[.slice Ao19 y125.length co19] ?_; (with_reducible refine (asm_Put.calls _ _ y125 t128 t129 t130 _ ?side1 ?side2 A2.out).mono ?_); (case side1 => repeat (first|exact (Kd.R_reads' HO127.out).2.2|(with_reducible refine Kd.C_alloc ?_ _)|(with_reducible refine Kd.C_drewN ?_ _)|(with_reducible refine Kd.C_drew ?_))); (case side2 => exact (Kd.R_reads' HO127.out).2.1); rintro e w20 ⟨v131, rfl, ho0, hb⟩; refine ⟨_, rfl, ?_⟩; have n0_ := Q4 (Kd.R_below (rK HO119) hb); have n1_ := Q4 (Kd.R_elder' (rK HO124) (Kd.R_base ho0) hb); have n2_ := Q4 (Kd.R_below (rK HO127) hb); have n3_ := Q4 (Kd.R_lower (Kd.R_new' ho0 (Kd.R_lt (rK HO124))) bZ); have n4_ := Q4 (Qg (by repeat (first|(with_reducible first|exact HB.out|apply Q8|apply Q5|apply Q9)|exact HB.out)) hb); clear HO119; clear HO124; clear HO127; clear HB; have HO119 := n0_; have HO124 := n1_; have HO127 := n2_; have HO132 := n3_; have HB := n4_; clear n0_ n1_ n2_ n3_ n4_;(try clear hb);(try clear hb2);(try clear hk);(try clear hi);(try clear ho0))|((with_reducible refine gate_callee (f := 6) rfl ?_); refine gL (some 28) Tryz.func6 #[.string (⟨#[97, 58]⟩ : ByteArray)] ?_; (with_reducible refine (asm_Read.calls k (⟨#[97, 58]⟩ : ByteArray) t133 t134 t135 _ (env_mono HTAB.out (by repeat (first|(with_reducible first|exact HB.out|apply Q8|apply Q5|apply Q9)|exact HB.out))) A3.out).mono ?_); rintro e w21 ⟨v136, rfl, ho0, hb⟩; refine ⟨_, rfl, ?_⟩; have n0_ := Q4 (Kd.R_elder' (rK HO119) (Kd.R_base ho0) hb); have n1_ := Q4 (Kd.R_below (rK HO124) hb); have n2_ := Q4 (Kd.R_elder' (rK HO127) (Kd.R_base ho0) hb); have n3_ := Q4 (Kd.R_below (rK HO132) hb); have n4_ := Q4 (Kd.R_lower (Kd.R_new' (Kd.R_new' ho0 (Kd.R_lt (rK HO119))) (Kd.R_lt (rK HO127))) bZ); have n5_ := Q4 (Qg (by repeat (first|(with_reducible first|exact HB.out|apply Q8|apply Q5|apply Q9)|exact HB.out)) hb); clear HO119; clear HO124; clear HO127; clear HO132; clear HB; have HO119 := n0_; have HO124 := n1_; have HO127 := n2_; have HO132 := n3_; have HO137 := n4_; have HB := n5_; clear n0_ n1_ n2_ n3_ n4_ n5_;(try clear hb);(try clear hb2);(try clear hk);(try clear hi);(try clear ho0); obtain ⟨Ao22, co22, eo22⟩ := Kd.R_slice HO124.out; subst eo22)|(go_at_call 13; (with_reducible refine (asm_List.calls _ _ t120 t138 _ (env_mono HTAB.out (by repeat (first|(with_reducible first|exact HB.out|apply Q8|apply Q5|apply Q9)|exact HB.out))) ?side1 ?side2 A6.out).mono ?_); (case side1 => repeat (first|exact (Kd.R_reads' HO124.out).2.2|(with_reducible refine Kd.C_alloc ?_ _)|(with_reducible refine Kd.C_drewN ?_ _)|(with_reducible refine Kd.C_drew ?_))); (case side2 => exact (Kd.R_reads' HO124.out).2.1); rintro e w23 ⟨rfl, hb⟩; have n0_ := Q4 (Kd.R_below (rK HO119) hb); have n1_ := Q4 (Kd.R_below (rK HO124) hb); have n2_ := Q4 (Kd.R_below (rK HO127) hb); have n3_ := Q4 (Kd.R_below (rK HO132) hb); have n4_ := Q4 (Kd.R_below (rK HO137) hb); have n5_ := Q4 (Qg (by repeat (first|(with_reducible first|exact HB.out|apply Q8|apply Q5|apply Q9)|exact HB.out)) hb); clear HO119; clear HO124; clear HO127; clear HO132; clear HO137; clear HB; have HO119 := n0_; have HO124 := n1_; have HO127 := n2_; have HO132 := n3_; have HO137 := n4_; have HB := n5_; clear n0_ n1_ n2_ n3_ n4_ n5_;(try clear hb);(try clear hb2);(try clear hk);(try clear hi); obtain ⟨Ao24, co24, eo24⟩ := Kd.R_slice HO137.out; subst eo24; have p139 : 0 ≤ (0 : Int) := (by omega); have q139 : 0 < (t133.length : Int) := Qc (by first|(with_reducible assumption)|assumption); obtain ⟨ad139, e139, hx139_0, hx139_1, hx139_2, hx139_3, hx139_4, hx139_5, hx139_6⟩ := at_T40 (Kd.R_reads' HO137.out).2.2 0 p139 q139; cases e139; have qi139 : (0 < t133.length) = True := eq_true (by omega); (try rw [show ((0 : Int)).toNat = 0 from rfl] at hx139_0); (try rw [show 0 * 7 = 0 from rfl] at hx139_0); (try rw [Addr.add_zero'] at hx139_0); (try rw [show ((0 : Int)).toNat = 0 from rfl] at hx139_1); (try rw [show 0 * 7 = 0 from rfl] at hx139_1); (try rw [Addr.add_zero'] at hx139_1); (try rw [show ((0 : Int)).toNat = 0 from rfl] at hx139_2); (try rw [show 0 * 7 = 0 from rfl] at hx139_2); (try rw [Addr.add_zero'] at hx139_2); (try rw [show ((0 : Int)).toNat = 0 from rfl] at hx139_3); (try rw [show 0 * 7 = 0 from rfl] at hx139_3); (try rw [Addr.add_zero'] at hx139_3); (try rw [show ((0 : Int)).toNat = 0 from rfl] at hx139_4); (try rw [show 0 * 7 = 0 from rfl] at hx139_4); (try rw [Addr.add_zero'] at hx139_4); (try rw [show ((0 : Int)).toNat = 0 from rfl] at hx139_5); (try rw [show 0 * 7 = 0 from rfl] at hx139_5); (try rw [Addr.add_zero'] at hx139_5); (try rw [show ((0 : Int)).toNat = 0 from rfl] at hx139_6); (try rw [show 0 * 7 = 0 from rfl] at hx139_6); (try rw [Addr.add_zero'] at hx139_6); replace p139 := eq_true p139; replace q139 := eq_true q139))
         go_ret
         exact ⟨by first|rfl|(simp [errW_none, errW_some] <;> rfl)|(simp [*, errW_none, errW_some] <;> rfl), by repeat (first|(with_reducible first|exact HB.out|apply Q8|apply Q5|apply Q9)|exact HB.out)⟩
        ·rw [if_neg c12] at H
         exact absurd H (by simp)
       ·rw [if_neg c11] at H
        have c11b0 : ((t133.length : Int) == 1) = false := Qk c11
        have c11b1 : ((t133.length : Int) != 1) = true := Ql c11
        exact absurd H (by first | decide)
      ·rw [if_neg c10] at H
       have c10b0 : (t135 == 0) = false := Qk c10
       have c10b1 : (t135 != 0) = true := Ql c10
       exact absurd H (by first | decide)
     ·rw [if_neg c9] at H
      have c9b0 : (t130 == 1) = false := Qk c9
      have c9b1 : (t130 != 1) = true := Ql c9
      exact absurd H (by first | decide)
    ·rw [if_neg c8] at H
     have c8b0 : (t129 == 0) = false := Qk c8
     have c8b1 : (t129 != 0) = true := Ql c8
     exact absurd H (by first | decide)
   ·rw [if_neg c7] at H
    have c7b0 : (t138.toList == ([106, 109, 112, 32, 45, 49, 10] : List UInt8)) = false := Qk c7
    have c7b1 : (t138.toList != ([106, 109, 112, 32, 45, 49, 10] : List UInt8)) = true := Ql c7
    exact absurd H (by first | decide)
  ·rw [if_neg c5] at H
   have c5b0 : ((t120.length : Int) == 1) = false := Qk c5
   have c5b1 : ((t120.length : Int) != 1) = true := Ql c5
   exact absurd H (by first | decide)
 ·rw [if_neg c4] at H
  have c4b0 : (t122 == 0) = false := Qk c4
  have c4b1 : (t122 != 0) = true := Ql c4
  exact absurd H (by first | decide)

end Go.Proofs.YtbelnkdbghggmaaGreatDoor.X
