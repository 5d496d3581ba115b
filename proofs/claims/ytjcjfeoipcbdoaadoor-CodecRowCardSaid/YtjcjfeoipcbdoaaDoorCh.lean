/- Contract of codec.parts and of what it hands out: what stands between commas, in order. -/
import Derived.Test.YtjcjfeoipcbdoaaDoorCg
import Derived.RangeFuncNested
import Derived.RangeFuncBound
import Derived.RangeFuncCalls
import Derived.RangeFuncLeaves
import Derived.Shelf.Abstract
import Derived.Shelf.AbstractIn
import Derived.Shelf.RegionOpen
import Derived.OwnWalkIn
import Derived.TacticsInMore
import Derived.LoopNIn
import Derived.LoopIn
import Derived.Lib.Hide
import Derived.Laws.EntriesVeiled
import Derived.WalkSpells
import Derived.Sort.QuietIn
import Derived.Sort.CutIn
namespace Go.Proofs.YtjcjfeoipcbdoaaDoor.X
open Go.RowKit Go.Shelf Go.Proofs.YtjcjfeoipcbdoaaDoorW.PrintWords Go.Proofs.YtjcjfeoipcbdoaaDoorW.PrintLast Go.Proofs.YtjcjfeoipcbdoaaDoorW.PrintMore
attribute [local go_sem] Oper.semAt_some
set_option linter.unusedVariables false
set_option linter.unusedSimpArgs false
/-- What stands between bytes c. -/
def splitL (c : UInt8) : List UInt8 → List (List UInt8)
  | [] => [[]]
  | b :: l => if b = c then [] :: splitL c l else match splitL c l with
    | [] => [[b]]
    | h :: t => (b :: h) :: t
theorem splitL_ne (c : UInt8) (l : List UInt8) : splitL c l ≠ [] := by
  cases l with
  | nil => simp [splitL]
  | cons b l =>
    unfold splitL
    split
    · simp
    · split <;> simp
theorem cut_nil (c : UInt8) : Lib.cut [] [c] = ([], [], false) := by simp [Lib.cut, Lib.index]
theorem cut_hit (c : UInt8) (l : List UInt8) : Lib.cut (c :: l) [c] = ([], l, true) := by
  have hp : [c].isPrefixOf (c :: l) = true := by simp
  have h : Lib.index (c :: l) [c] = 0 := by rw [Lib.index, if_pos hp]
  unfold Lib.cut
  rw [h]
  rfl
theorem cut_skip (b c : UInt8) (l : List UInt8) (h : b ≠ c) : Lib.cut (b :: l) [c] = (b :: (Lib.cut l [c]).1, (Lib.cut l [c]).2.1, (Lib.cut l [c]).2.2) := by
  have hi : Lib.index (b :: l) [c] = if Lib.index l [c] == -1 then -1 else Lib.index l [c] + 1 := by
    have hp : [c].isPrefixOf (b :: l) = false := by
      show ((c == b) && _) = false
      rw [beq_eq_false_iff_ne.2 (fun e => h e.symm)]
      rfl
    rw [Lib.index, if_neg (by rw [hp]; decide)]
  have hge := Lib.index_ge l [c]
  unfold Lib.cut
  rw [hi]
  by_cases h0 : 0 ≤ Lib.index l [c]
  · obtain ⟨i, hi⟩ : ∃ i : Nat, Lib.index l [c] = (i : Int) := ⟨(Lib.index l [c]).toNat, by omega⟩
    rw [hi]
    have h1 : ((i : Int) == -1) = false := by rw [beq_eq_false_iff_ne]; omega
    rw [h1]
    have e : ((i : Int) + 1).toNat = i + 1 := by omega
    have h2 : (0 : Int) ≤ (i : Int) + 1 := by omega
    have h3 : (0 : Int) ≤ (i : Int) := by omega
    have e0 : (if false = true then (-1 : Int) else (i : Int) + 1) = (i : Int) + 1 := rfl
    rw [e0, if_pos h2, if_pos h3, e]
    simp
  · have h1 : Lib.index l [c] = -1 := by omega
    rw [h1]
    simp
theorem split_cut (c : UInt8) (l : List UInt8) : ((Lib.cut l [c]).2.2 = true → splitL c l = (Lib.cut l [c]).1 :: splitL c (Lib.cut l [c]).2.1 ∧ (Lib.cut l [c]).2.1.length < l.length) ∧ ((Lib.cut l [c]).2.2 = false → splitL c l = [(Lib.cut l [c]).1]) := by
  induction l with
  | nil => rw [cut_nil]; simp [splitL]
  | cons b l ih =>
    by_cases h : b = c
    · subst h
      rw [cut_hit]
      simp [splitL]
    · rw [cut_skip b c l h]
      obtain ⟨ih1, ih2⟩ := ih
      refine ⟨fun ht => ?_, fun hf => ?_⟩
      · obtain ⟨h1, h2⟩ := ih1 ht
        rw [splitL, if_neg h, h1]
        exact ⟨rfl, by simp; omega⟩
      · rw [splitL, if_neg h, ih2 hf]
def splitB (c : UInt8) (s : ByteArray) : List ByteArray := (splitL c s.data.toList).map (fun l => ⟨l.toArray⟩)
theorem splitB_cut (c : UInt8) (s : ByteArray) : ((cutB s.data.toList [c]).2.2 = true → splitB c s = (cutB s.data.toList [c]).1 :: splitB c (cutB s.data.toList [c]).2.1 ∧ (cutB s.data.toList [c]).2.1.size < s.size) ∧ ((cutB s.data.toList [c]).2.2 = false → splitB c s = [(cutB s.data.toList [c]).1]) := by
  obtain ⟨h1, h2⟩ := split_cut c s.data.toList
  unfold splitB cutB
  refine ⟨fun ht => ?_, fun hf => ?_⟩
  · obtain ⟨h3, h4⟩ := h1 ht
    refine ⟨?_, ?_⟩
    · simp only [List.toList_toArray, h3, List.map_cons]
    · exact h4
  · simp only [h2 hf, List.map_cons, List.map_nil]
theorem splitL_length (c : UInt8) (l : List UInt8) : (splitL c l).length ≤ l.length + 1 := by
  induction l with
  | nil => simp [splitL]
  | cons b l ih =>
    unfold splitL
    split
    · simp; omega
    · split
      · simp
      · rename_i h t e
        rw [e] at ih
        simp at ih ⊢
        omega
theorem splitB_length (c : UInt8) (s : ByteArray) : (splitB c s).length ≤ s.size + 1 := by
  have := splitL_length c s.data.toList
  unfold splitB
  rw [List.length_map]
  exact this
theorem splitB_pos (c : UInt8) (s : ByteArray) : 0 < (splitB c s).length := by
  unfold splitB
  rw [List.length_map]
  exact List.length_pos_iff.2 (splitL_ne c _)
theorem parts_calls (s : ByteArray) (w : World) : Calls Tryd.prog 33 #[.string s] w fun e w' => e = .returned (.func (.func 45) #[] #[.pointer (some ⟨w.heap.size, 0, none⟩)]) ∧ w' = w.alloc (.cells #[.string s] 9) := by
  go_enter Tryd.func33, Tryd.ntmps33
  go_wp2
  go_ret
  exact ⟨rfl, rfl⟩
def moreOf (b : Nat) (m : Value) (w : World) : Nat := match m with
  | .bool true => match w.cell? ⟨b, 0, none⟩ with
    | some (.string s) => s.size + 1
    | _ => 0
  | _ => 0
set_option maxRecDepth 100000 in
set_option maxHeartbeats 8000000 in
theorem parts1_in (n : Nat) (hn : 1 ≤ n) (l b : Nat) (s0 : ByteArray) (hs0 : s0.size < 4294967281) (J : List ByteArray → World → Prop) (W : World)
    (hd : ∀ pre W k, J pre W → J pre (W.drewN k)) (hset : ∀ pre W v, J pre W → J pre (W.setCell ⟨b, 0, none⟩ v)) (henv : ∀ pre W, J pre W → Env W)
    (hY : ∀ pre (x : ByteArray) s W1, J pre W1 → pre.length ≤ s0.size → x.size ≤ s0.size → W1.heap[b]? = some (.cells #[.string s] 9 (0, 0)) → YieldAt Fence.wide (n - 1) Tryd.prog l #[.string x] W1 fun e W' =>
      e = .returned (.bool true) ∧ J (pre ++ [x]) W' ∧ W'.heap[b]? = some (.cells #[.string s] 9 (0, 0)))
    (hB : W.heap[b]? = some (.cells #[.string s0] 9 (0, 0))) (h0 : J [] W) :
    CallsIn Fence.wide n Tryd.prog 45 #[.func (.yield l) #[] #[], .pointer (some ⟨b, 0, none⟩)] W fun e W' => (∃ v, e = .returned v) ∧ J (splitB 44 s0) W' := by
  have hcut := fun n s hs W ht => (callsIn_wide (n := n)).2 (Cut_any s 44 W hs ht)
  refine callsIn_of_wp Tryd.func45 rfl trivial ?_ rfl
  simp only [Tryd.ntmps45, List.size_toArray, List.length_cons, List.length_nil, Nat.reduceAdd, Nat.reduceSub, Array.replicate_succ, Array.replicate_zero, List.push_toArray, List.append_toArray, List.nil_append, List.cons_append]
  gi_wp2
  gi_loopw [3] (fun m wr => ∃ (pre : List ByteArray) (s : ByteArray) (more : Bool), m = .bool more ∧ J pre wr ∧ wr.heap[b]? = some (.cells #[.string s] 9 (0, 0)) ∧ s.size ≤ s0.size ∧ (more = true → pre ++ splitB 44 s = splitB 44 s0) ∧ (more = false → pre = splitB 44 s0)) (fun m wr => moreOf b m wr)
  case atStart => exact ⟨[], s0, true, rfl, h0, hB, Nat.le_refl _, fun _ => rfl, fun h => by cases h⟩
  case round =>
    obtain ⟨pre, s, more, rfl, hJ, hb, hsz, h1, h2⟩ := hrel
    cases more
    · gi_wp2
      go_end0
      refine ⟨⟨_, rfl⟩, ?_⟩
      rw [← h2 (by simp)]
      exact hJ
    · have hle := cutB_le s [44]
      have hsp := splitB_cut 44 s
      have hc0 := blk_cell hb 0
      simp only [List.getElem?_toArray, List.getElem?_cons_zero] at hc0
      have hcu := hcut
      have hcs := fun n => hcut n s (by omega)
      generalize (cutB s.data.toList [44]).1 = d at *
      generalize (cutB s.data.toList [44]).2.1 = g at *
      generalize (cutB s.data.toList [44]).2.2 = ok at *
      have HSP := Aside0.mk hsp
      have hpl : pre.length ≤ s0.size := by
        have h := congrArg List.length (h1 rfl)
        rw [List.length_append] at h
        have h2 := splitB_length 44 s0
        have h3 := splitB_pos 44 s
        omega
      have H1 := Aside0.mk (h1 rfl)
      clear hsp h1 h2 hcut
      gi_wp2_with (refine ⟨trivial, ?_⟩; gi_at_call 46; refine (hcs _ _ (henv _ _ hJ)).mono ?_; rintro e_ w2 ⟨rfl, nd, rfl⟩; have hb2 := blk_drewN hb nd; have hc2 := blk_cell hb2 0; have hf2 := blk_frozen hb2 0; simp only [List.getElem?_toArray, List.getElem?_cons_zero] at hc2; have hJ2 := hset pre _ (.string g) (hd pre wr nd hJ); have hb3 := blk_put hb2 0 (.string g) rfl; obtain ⟨fn, tmps, assign, body, hy, hR⟩ := hY pre d g _ hJ2 hpl (by omega) hb3)
      refine hR.mono ?_
      rintro e_ W3 ⟨rfl, hJ3, hb3'⟩
      have hc3 := blk_cell hb3' 0
      simp only [List.getElem?_toArray, List.getElem?_cons_zero] at hc3
      cases ok
      · gi_wp2
        go_roundw
        case rel => exact ⟨_, g, false, rfl, hJ3, hb3', by omega, (fun h => by cases h), (fun _ => by rw [← H1.out, HSP.out.2 (by simp)])⟩
        case measure => simp [moreOf, hc0]
      · gi_wp2
        go_roundw
        case rel => exact ⟨_, g, true, rfl, hJ3, hb3', by omega, (fun _ => by rw [← H1.out, (HSP.out.1 (by simp)).1]; simp), (fun h => by cases h)⟩
        case measure =>
          have := (HSP.out.1 (by simp)).2
          simp [moreOf, hc0, hc3]
          omega
end Go.Proofs.YtjcjfeoipcbdoaaDoor.X
