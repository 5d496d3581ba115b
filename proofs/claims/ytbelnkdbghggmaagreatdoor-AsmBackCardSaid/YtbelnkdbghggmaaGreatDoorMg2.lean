/- Texts of this claim that stand one behind another, merged. -/
import Derived.Test.YtbelnkdbghggmaaGreatDoorMg1
import Derived.Laws.StructEq
import Derived.Test.YtbelnkdbghggmaaGreatDoorProg
import Derived.Below
import Derived.Deep.Draws
import Derived.Deep.AppendLies
import Derived.Maps.AppendAt
import Derived.OwnWalk
import Derived.Laws.BytesArg
import Derived.Laws.MakeOwn
import Derived.Laws.OwnMore
import Derived.Deep.OwnRows
import Derived.Tactics
import Derived.Lib.ConvBytes
import Derived.Laws.Slices
import Derived.WalkKit
import Derived.KernelRfl
import Derived.RowKit3
import Derived.Deep.LoopGhost
import Derived.Deep.QuietTactic
import Derived.BigQuiet
import Derived.WideLaws
import Derived.Deep.DeepCutAuto
import Derived.Deep.CutBlock
import Derived.Deep.RegionHeld3
import Derived.Laws.Rows
import Derived.Lib.AppendStr
import Derived.ArgAppend
import Derived.Laws.IdiomCopy
import Derived.OrdersHeld
import Derived.Laws.BitsLemmas
import Derived.RowKit
import Derived.Deep.WholeRow
import Derived.Lib.Bytealg
import Derived.RangeFuncNested
import Derived.RangeFuncBound
import Derived.RangeFuncCalls
import Derived.RangeFuncLeaves
import Derived.Shelf.Abstract
import Derived.Shelf.AbstractIn
import Derived.Shelf.RegionOpen
import Derived.OwnWalkIn
import Derived.TacticsInMore
import Derived.LoopNIn
import Derived.LoopIn
import Derived.Lib.Hide
import Derived.Laws.EntriesVeiled
import Derived.WalkSpells
import Derived.Sort.QuietIn
import Derived.Lib.SliceRun
/-! ### 50. A region's order in a table, made once a region: each step asks the table (numbers alone), not the operations -/
namespace Go.Proofs.YtbelnkdbghggmaaGreatDoorW.PrintLast
open Go.Proofs.YtbelnkdbghggmaaGreatDoorW.PrintWords (Aside0)
def needsOf (md : Region.Mode) (o : Oper) : List Nat := (o.after.toList.filter (fun e => Region.binds md e)).map (fun e => e.on)
def clashOf (md : Region.Mode) (ops : Array Oper) (i : Nat) (oi : Oper) : List Nat := (List.range ops.size).filter fun j => !(j == i) && match ops[j]? with
  | some oj => !(oj.after.any (fun e => Region.binds md e && e.on == i) || oi.apart ops oj)
  | none => false
/-- No select in it; for each operation: what must have come up before it, and what may not come up behind it if it is taken first. -/
def rtab (md : Region.Mode) (ops : Array Oper) : Bool × List (List Nat × List Nat) := (Region.noSelect ops, (List.range ops.size).map fun i => match ops[i]? with
  | some o => (needsOf md o, clashOf md ops i o)
  | none => ([], []))
def readyAt (T : List (List Nat × List Nat)) (l : List Bool) (i : Nat) : Bool := !l.getD i true && match T[i]? with
  | some r => r.1.all (fun j => l.getD j false)
  | none => false
def readyT (T : List (List Nat × List Nat)) (l : List Bool) : List Nat := (List.range T.length).filter (readyAt T l)
def freeT (T : List (List Nat × List Nat)) (l : List Bool) (i : Nat) : Bool := match T[i]? with
  | some r => r.2.all (fun j => l.getD j true)
  | none => false
def closedT (T : List (List Nat × List Nat)) (l : List Bool) : Bool := (List.range T.length).all fun j => !l.getD j false || match T[j]? with
  | some r => r.1.all (fun k => l.getD k false)
  | none => true
def reachT (T : List (List Nat × List Nat)) (i : Nat) : Nat → Nat → Bool
  | 0, _ => false
  | fuel + 1, d => match T[d]? with
    | some r => r.1.any fun j => j == i || reachT T i fuel j
    | none => false
def lastT (T : List (List Nat × List Nat)) (l : List Bool) (ds : List Nat) (i : Nat) : Bool := ds.all fun d => l.getD d true || reachT T i T.length d
section
variable {md : Region.Mode} {ops : Array Oper} {T : Bool × List (List Nat × List Nat)} {l l' li lj lk : Array Bool} {ds : List Nat} {i j k : Nat}
theorem gd (l : Array Bool) (j : Nat) (b : Bool) : l.getD j b = l.toList.getD j b := by simp [Array.getD_eq_getD_getElem?, List.getD_eq_getElem?_getD]
theorem needs_all (o : Oper) (p : Nat → Bool) : o.after.all (fun e => !Region.binds md e || p e.on) = (needsOf md o).all p := by
  unfold needsOf
  rw [← Array.all_toList]
  induction o.after.toList with
  | nil => rfl
  | cons e r ih =>
    rw [List.all_cons, ih, List.filter_cons]
    cases h : Region.binds md e <;> simp
theorem needs_any (o : Oper) (p : Nat → Bool) : o.after.any (fun e => Region.binds md e && p e.on) = (needsOf md o).any p := by
  unfold needsOf
  rw [← Array.any_toList]
  induction o.after.toList with
  | nil => rfl
  | cons e r ih =>
    rw [List.any_cons, ih, List.filter_cons]
    cases h : Region.binds md e <;> simp
theorem rtab_length : (rtab md ops).2.length = ops.size := by simp [rtab]
theorem rtab_some {o : Oper} (h : ops[i]? = some o) : (rtab md ops).2[i]? = some (needsOf md o, clashOf md ops i o) := by
  have hi := (Array.getElem?_eq_some_iff.1 h).1
  unfold rtab
  rw [List.getElem?_map, List.getElem?_range hi, Option.map_some, h]
theorem rtab_none (h : ops[i]? = none) : (rtab md ops).2[i]? = none := by
  have hi : ops.size ≤ i := Array.getElem?_eq_none_iff.1 h
  exact List.getElem?_eq_none (by rw [rtab_length]; exact hi)
theorem readyAt_eq : readyAt (rtab md ops).2 l.toList i = (!l.getD i true && ((ops[i]?).map (·.after.all fun e => !Region.binds md e || l.getD e.on false)).getD false) := by
  unfold readyAt
  rw [gd]
  cases h : ops[i]? with
  | none => rw [rtab_none h]; rfl
  | some o =>
    rw [rtab_some h]
    simp only [Option.map_some, Option.getD_some]
    rw [← needs_all]
    simp only [gd]
theorem ready_eq : Region.ready md ops l = readyT (rtab md ops).2 l.toList := by
  unfold Region.ready readyT
  rw [rtab_length]
  refine List.filter_congr (fun i _ => ?_)
  rw [readyAt_eq]
theorem free_eq : Region.free md ops l i = freeT (rtab md ops).2 l.toList i := by
  unfold Region.free freeT
  cases h : ops[i]? with
  | none => rw [rtab_none h]
  | some oi =>
    rw [rtab_some h]
    simp only [clashOf]
    rw [List.all_filter]
    congr 1
    funext j
    rw [gd]
    cases hj : ops[j]? with
    | none => cases (j == i) <;> cases (l.toList.getD j true) <;> simp
    | some oj =>
      cases (j == i) <;> cases (l.toList.getD j true) <;> cases (oj.after.any (fun e => Region.binds md e && e.on == i) || oi.apart ops oj) <;> simp_all
theorem closed_eq : Region.closedB md ops l = closedT (rtab md ops).2 l.toList := by
  unfold Region.closedB closedT
  rw [rtab_length]
  congr 1
  funext j
  rw [gd]
  cases h : ops[j]? with
  | none => rw [rtab_none h]
  | some o =>
    rw [rtab_some h]
    simp only
    rw [← needs_all]
    simp only [gd]
theorem reach_eq : ∀ (fuel d : Nat), Region.reachB md ops i fuel d = reachT (rtab md ops).2 i fuel d
  | 0, _ => rfl
  | fuel + 1, d => by
    unfold Region.reachB reachT
    cases h : ops[d]? with
    | none => rw [rtab_none h]
    | some o =>
      rw [rtab_some h]
      simp only
      rw [← needs_any]
      congr 1
      funext e
      rw [reach_eq fuel]
theorem last_eq : Region.lastB md ops l ds i = lastT (rtab md ops).2 l.toList ds i := by
  unfold Region.lastB lastT
  rw [rtab_length]
  congr 1
  funext d
  rw [gd, reach_eq]
theorem readyAt_mem (h : readyAt T.2 l.toList i = true) (hT : rtab md ops = T) : (Region.ready md ops l).contains i = true := by
  subst hT
  rw [ready_eq]
  unfold readyT
  rw [List.contains_iff_mem, List.mem_filter, List.mem_range]
  refine ⟨?_, h⟩
  unfold readyAt at h
  rw [Bool.and_eq_true] at h
  cases hq : (rtab md ops).2[i]? with
  | none => rw [hq] at h; simp at h
  | some r => exact (List.getElem?_eq_some_iff.1 hq).1
theorem set_of (h : (l.toList.set i true == l'.toList) = true) : (l.setIfInBounds i true == l') = true := by
  rw [beq_iff_eq] at h ⊢
  apply Array.ext'
  rw [Array.toList_setIfInBounds]
  exact h
def anyT (T : Bool × List (List Nat × List Nat)) (l l' : List Bool) (i : Nat) : Bool := T.1 && freeT T.2 l i && readyAt T.2 l i && (l.set i true == l')
/-- pure_'s condition out of the table. -/
theorem any_of (hT : rtab md ops = T) (h : anyT T l.toList l'.toList i = true) : anyB md ops l l' i = true := by
  simp only [anyT, Bool.and_eq_true] at h
  obtain ⟨⟨⟨h1, h2⟩, h3⟩, h4⟩ := h
  have h5 := readyAt_mem h3 hT
  have h6 := set_of h4
  subst hT
  simp only [anyB, Bool.and_eq_true]
  exact ⟨⟨⟨h1, by rw [free_eq]; exact h2⟩, h5⟩, h6⟩
def takeT (T : Bool × List (List Nat × List Nat)) (ds : List Nat) (l l' : List Bool) (i : Nat) : Bool := T.1 && freeT T.2 l i && readyAt T.2 l i && closedT T.2 l && lastT T.2 l ds i && (l.set i true == l')
/-- take_'s. -/
theorem take_of (hT : rtab md ops = T) (h : takeT T ds l.toList l'.toList i = true) : takeB md ops ds l l' i = true := by
  simp only [takeT, Bool.and_eq_true] at h
  obtain ⟨⟨⟨⟨⟨h1, h2⟩, h3⟩, h4⟩, h5⟩, h6⟩ := h
  have h7 := readyAt_mem h3 hT
  have h8 := set_of h6
  subst hT
  simp only [takeB, Bool.and_eq_true]
  exact ⟨⟨⟨⟨⟨h1, by rw [free_eq]; exact h2⟩, h7⟩, by rw [closed_eq]; exact h4⟩, by rw [last_eq]; exact h5⟩, h8⟩
/-- one_'s and last_'s. -/
theorem one_of (hT : rtab md ops = T) (h : (readyT T.2 l.toList == [i] && l.toList.set i true == l'.toList) = true) : readyB md ops l l' i = true := by
  simp only [Bool.and_eq_true] at h
  obtain ⟨h1, h2⟩ := h
  subst hT
  simp only [readyB, Bool.and_eq_true]
  exact ⟨by rw [ready_eq]; exact h1, set_of h2⟩
/-- done_'s. -/
theorem done_of (hT : rtab md ops = T) (h : (readyT T.2 l.toList == []) = true) : (Region.ready md ops l == []) = true := by
  subst hT
  rw [ready_eq]
  exact h
/-- What d waits for, as_ bits: told in the table (B), checked in one pass: each bit is a need of d, or a bit of an earlier need's. -/
def upM (B : List Nat) (d : Nat) : List Nat → Nat
  | [] => 0
  | n :: r => (2 ^ n ||| (if n < d then B.getD n 0 else 0)) ||| upM B d r
def waitsOk (T : List (List Nat × List Nat)) (B : List Nat) : Bool := (List.range T.length).all fun d => match T[d]? with
  | some r => (B.getD d 0 ||| upM B d r.1) == upM B d r.1
  | none => false
theorem upM_bit {B : List Nat} {d i : Nat} : ∀ {ns : List Nat}, (upM B d ns).testBit i = true → ∃ n ∈ ns, n = i ∨ (n < d ∧ (B.getD n 0).testBit i = true)
  | [], h => by simp [upM] at h
  | n :: r, h => by
    unfold upM at h
    rw [Nat.testBit_or, Nat.testBit_or, Bool.or_eq_true, Bool.or_eq_true] at h
    rcases h with (h | h) | h
    · rw [Nat.testBit_two_pow] at h
      exact ⟨n, List.mem_cons_self, .inl (by simpa using h)⟩
    · by_cases hn : n < d
      · rw [if_pos hn] at h
        exact ⟨n, List.mem_cons_self, .inr ⟨hn, h⟩⟩
      · rw [if_neg hn] at h
        simp at h
    · obtain ⟨m, hm, h2⟩ := upM_bit h
      exact ⟨m, List.mem_cons_of_mem _ hm, h2⟩
theorem reach_bit {T : List (List Nat × List Nat)} {B : List Nat} (hB : waitsOk T B = true) : ∀ (fuel d : Nat), d < fuel → d < T.length → (B.getD d 0).testBit i = true → reachT T i fuel d = true
  | 0, d, h, _, _ => by omega
  | fuel + 1, d, h, hd, hb => by
    have h1 := List.all_eq_true.1 hB d (List.mem_range.2 hd)
    cases hr : T[d]? with
    | none => rw [hr] at h1; simp at h1
    | some r =>
      rw [hr] at h1
      simp only [beq_iff_eq] at h1
      have h2 : (upM B d r.1).testBit i = true := by rw [← h1, Nat.testBit_or, hb, Bool.true_or]
      obtain ⟨n, hn, h3⟩ := upM_bit h2
      unfold reachT
      rw [hr]
      simp only
      rw [List.any_eq_true]
      refine ⟨n, hn, ?_⟩
      rcases h3 with rfl | ⟨h4, h5⟩
      · simp
      · rw [reach_bit hB fuel n (by omega) (by omega) h5, Bool.or_true]
def lastW (T : List (List Nat × List Nat)) (B : List Nat) (l : List Bool) (ds : List Nat) (i : Nat) : Bool := ds.all fun d => l.getD d true || (decide (d < T.length) && (B.getD d 0).testBit i)
def takeW (T : Bool × List (List Nat × List Nat)) (B : List Nat) (ds : List Nat) (l l' : List Bool) (i : Nat) : Bool := T.1 && freeT T.2 l i && readyAt T.2 l i && closedT T.2 l && lastW T.2 B l ds i && (l.set i true == l')
/-- take_'s, by the bits. -/
theorem take_ofW {B : List Nat} (hT : rtab md ops = T) (hB : waitsOk T.2 B = true) (h : takeW T B ds l.toList l'.toList i = true) : takeB md ops ds l l' i = true := by
  refine take_of hT ?_
  simp only [takeW, takeT, Bool.and_eq_true] at h ⊢
  obtain ⟨⟨⟨⟨⟨h1, h2⟩, h3⟩, h4⟩, h5⟩, h6⟩ := h
  refine ⟨⟨⟨⟨⟨h1, h2⟩, h3⟩, h4⟩, ?_⟩, h6⟩
  unfold lastW at h5
  unfold lastT
  rw [List.all_eq_true] at h5 ⊢
  intro d hd
  have h7 := h5 d hd
  rw [Bool.or_eq_true, Bool.and_eq_true, decide_eq_true_eq] at h7
  rcases h7 with h7 | ⟨h8, h9⟩
  · rw [h7, Bool.true_or]
  · rw [reach_bit hB _ d h8 h8 h9, Bool.or_true]
theorem with_tabW {P : Program} {Q : Exit → Act → World → Prop} {S : World → Prop} {n : Nat} {a : Act} {w : World} {B : List Nat} (hT : rtab md ops = T) (hB : waitsOk T.2 B = true) (h : Aside0 (rtab md ops = T) → Aside0 (waitsOk T.2 B = true) → wpAnyLast P md ops Q S ds n l a w) : wpAnyLast P md ops Q S ds n l a w := h ⟨hT⟩ ⟨hB⟩
end
/-- The operations of a region, by its number. -/
def opsIn : Code → Nat → Option (Array Oper)
  | .region id ops _, k => if id == k then some ops else none
  | .seq a b, k => match opsIn a k with
    | some o => some o
    | none => opsIn b k
  | .cond _ a b, k => match opsIn a k with
    | some o => some o
    | none => opsIn b k
  | .block _ c, k => opsIn c k
  | .loop c, k => opsIn c k
  | .scope c, k => opsIn c k
  | .rangeFunc _ _ a b, k => match opsIn a k with
    | some o => some o
    | none => opsIn b k
  | _, _ => none
def opsOf (f : Func) (k : Nat) : Array Oper := ((f.body.bind fun c => opsIn c k)).getD #[]
end Go.Proofs.YtbelnkdbghggmaaGreatDoorW.PrintLast
/-! ### 53. '==' of structs as_ one Bool -/
namespace Go.Proofs.YtbelnkdbghggmaaGreatDoorW.PrintWords
open Go.RowKit
section
variable {P : Program} {d : Nat} {xs ys : Array Value} {f : Field} {fs : List Field} {a b : Value} {r s : Bool} {w : World}
/-- The last field that counts. -/
theorem eqf_last (hn : (f.name == "_") = false) (ha : (part f.type xs f.offset).run P w = .ok a w) (hb : (part f.type ys f.offset).run P w = .ok b w) (he : (Op.equalIn d f.type a b).run P w = .ok r w) : (Op.eqFields d xs ys [f]).run P w = .ok r w := by
  have hn' : f.name ≠ "_" := by simpa using hn
  simp only [Op.eqFields, if_pos hn', Sem.run_bind, ha, hb, he, Result.andThen_ok]
  cases r <;> simp
theorem eqf_cons (hn : (f.name == "_") = false) (ha : (part f.type xs f.offset).run P w = .ok a w) (hb : (part f.type ys f.offset).run P w = .ok b w) (he : (Op.equalIn d f.type a b).run P w = .ok r w) (hr : (Op.eqFields d xs ys fs).run P w = .ok s w) : (Op.eqFields d xs ys (f :: fs)).run P w = .ok (r && s) w := by
  have hn' : f.name ≠ "_" := by simpa using hn
  rw [Op.eqFields]
  simp only [if_pos hn', Sem.run_bind, ha, hb, he, Result.andThen_ok]
  cases r
  · simp
  · simpa using hr
theorem eqA_of {t : TypeId} {fs : Array Field} (hu : P.underlying t = some (.struct fs)) (hp : P.stoodInHeld t = false) (h : (Op.eqFields d xs ys fs.toList).run P w = .ok r w) : (Op.equalIn (d + 1) t (.agg xs) (.agg ys)).run P w = .ok r w := by
  have hf : P.fieldsOf t = fs := by simp [Program.fieldsOf, hu]
  rw [run_equalIn_struct (P := P) w d t xs ys (by rw [hf]; exact hu) hp, hf]
  exact h
end
end Go.Proofs.YtbelnkdbghggmaaGreatDoorW.PrintWords
/-! ### 55. Reps told from the front, no append: for rows of one-cell elements and of wider ones -/
namespace Go.Proofs.YtbelnkdbghggmaaGreatDoorW.PrintWords
/-- More cells an element: told apart by the cells' list. -/
theorem Reps.front {α : Type} {R : α → List Value → Prop} {size : Nat} {ps : List α} {cs c all : List Value} {p : α} (hp : R p c) (hc : c.length = size) (h : Reps R size ps cs) (ha : c ++ cs = all) : Reps R size (p :: ps) all := by
  subst ha
  refine ⟨by rw [List.length_append, hc, h.1, List.length_cons, Nat.succ_mul, Nat.add_comm], fun j q hq => ?_⟩
  cases j with
  | zero =>
    simp only [List.getElem?_cons_zero, Option.some.injEq] at hq
    subst hq
    rw [Nat.zero_mul, List.drop_zero, List.take_append_of_le_length (by omega), List.take_of_length_le (by omega)]
    exact hp
  | succ j =>
    simp only [List.getElem?_cons_succ] at hq
    have h1 := h.2 j q hq
    rw [Nat.succ_mul, List.drop_append, List.drop_of_length_le (by rw [hc]; exact Nat.le_add_left _ _), List.nil_append, hc, Nat.add_sub_cancel]
    exact h1
theorem Reps.c7 {α : Type} {R : α → List Value → Prop} {ps : List α} {cs : List Value} {p : α} {va vb vc vd ve vf vg : Value} (hp : R p [va, vb, vc, vd, ve, vf, vg]) (h : Reps R 7 ps cs) : Reps R 7 (p :: ps) (va :: vb :: vc :: vd :: ve :: vf :: vg :: cs) := Reps.front hp rfl h rfl
end Go.Proofs.YtbelnkdbghggmaaGreatDoorW.PrintWords
/-! ### 58. A guarded operation whose guard is known to want it: the same goal without the guard -/
namespace Go.Proofs.YtbelnkdbghggmaaGreatDoorW.PrintWords
open Go.RowKit
section
variable {P : Program} {ops : Array Oper} {rest : List Oper} {o : Oper} {a : Act} {Q : Exit → Act → World → Prop} {W : World}
/-- The gate takes the guard off (hw: 'by rfl', 'by kernel_rfl': the guard's slot holds what is wanted). -/
theorem gate_guard (hw : Region.wanted o (yielded ops a.tmps) = true) (h : wpList P ops Q ({ o with guard := none } :: rest) a W) : wpList P ops Q (o :: rest) a W := by
  have h1 : Region.wanted { o with guard := none } (yielded ops a.tmps) = true := rfl
  unfold wpList at h ⊢
  rw [if_pos h1] at h
  rw [if_pos hw]
  exact h
end
end Go.Proofs.YtbelnkdbghggmaaGreatDoorW.PrintWords
namespace Go.Proofs.YtbelnkdbghggmaaGreatDoor.X
open Go.RowKit Go.Proofs.YtbelnkdbghggmaaGreatDoorW.PrintWords Go.Proofs.YtbelnkdbghggmaaGreatDoorW.PrintLast
theorem Q1 {α : Type _} (l : List α) (i : Nat) (a : α) : l.toArray.setIfInBounds i a = (l.set i a).toArray := List.setIfInBounds_toArray ..
theorem Q2 {α : Type _} (x a : α) (l : List α) : (x :: l).set 0 a = a :: l := rfl
theorem Q3 {α : Type _} (x a : α) (l : List α) (n : Nat) : (x :: l).set (n + 1) a = x :: l.set n a := rfl
abbrev Q4 := @Aside0.mk
abbrev Q5 := @pw_below_drewN
abbrev Q6 := @below_set
abbrev Q7 := @blk_alloc
abbrev Q8 := @below_alloc
abbrev Q9 := @below_drew1
abbrev Qb := @blk_drew
abbrev Qc := @of_decide_eq_true
abbrev Qd := @blk_frozen
abbrev Qe := @blk_cell
abbrev Qf := @cell_far
abbrev Qg := @below_step
theorem Qh {α : Type _} [BEq α] [LawfulBEq α] {a b : α} (h : a = b) : (a != b) = false := bne_eq_false_iff_eq.mpr h
theorem Qi {α β : Type _} {o : Option α} {f : α → Option β} {b : β} (h : o.bind f = some b) : ∃ a, o = some a ∧ f a = some b := Option.bind_eq_some_iff.mp h
abbrev Qj := @decide_eq_true
theorem Qk {α : Type _} [BEq α] [LawfulBEq α] {a b : α} (h : a ≠ b) : (a == b) = false := beq_eq_false_iff_ne.mpr h
theorem Ql {α : Type _} [BEq α] [LawfulBEq α] {a b : α} (h : a ≠ b) : (a != b) = true := bne_iff_ne.mpr h
theorem Qm {α : Type _} [BEq α] [LawfulBEq α] {a b : α} (h : a = b) : (a == b) = true := beq_iff_eq.mpr h
abbrev Qn := @Option.some.inj
abbrev Qo := @blk_below
abbrev Qp := @any_of

set_option linter.unusedVariables false
set_option linter.unusedSimpArgs false

theorem info40 : (Tryz.prog.info? 40).map (fun i => (i.zero, i.size, i.bytes)) = some (some (.agg #[(.string ⟨#[]⟩), (.int .i64 0), (.int .i64 0), (.int .i64 0), (.int .i64 0), (.int .i32 0), (.string ⟨#[]⟩)]), 7, 72) := by kernel_rfl
-- the values' own types
/-! #### struct type 38 -/
structure S38 where
  f0 : Int
  f1 : Int
  f2 : Int
  f3 : Int
  f4 : Int
def z38 : S38 := ⟨(0 : Int), (0 : Int), (0 : Int), (0 : Int), (0 : Int)⟩
def k38 : Kd S38 := Kd.iso (Kd.pair (Kd.int .i64) (Kd.pair (Kd.int .i64) (Kd.pair (Kd.int .i64) (Kd.pair (Kd.int .i64) (Kd.int .i32))))) (fun x : S38 => (x.f0, x.f1, x.f2, x.f3, x.f4))
theorem k38_open {w : World} {x : S38} {cs : List Value} (h : k38.K w x cs) : cs = [.int .i64 x.f0, .int .i64 x.f1, .int .i64 x.f2, .int .i64 x.f3, .int .i32 x.f4] := by
  obtain ⟨_, _, rfl, rfl, ⟨_, _, rfl, rfl, ⟨_, _, rfl, rfl, ⟨_, _, rfl, rfl, rfl⟩⟩⟩⟩ := h
  exact rfl
theorem k38_mkM (w : World) (base : Nat) (ok : Nat → Prop) (x : S38)  : k38.M w base ok x [.int .i64 x.f0, .int .i64 x.f1, .int .i64 x.f2, .int .i64 x.f3, .int .i32 x.f4] := ⟨[.int .i64 x.f0], [.int .i64 x.f1, .int .i64 x.f2, .int .i64 x.f3, .int .i32 x.f4], rfl, rfl, ⟨[.int .i64 x.f1], [.int .i64 x.f2, .int .i64 x.f3, .int .i32 x.f4], rfl, rfl, ⟨[.int .i64 x.f2], [.int .i64 x.f3, .int .i32 x.f4], rfl, rfl, ⟨[.int .i64 x.f3], [.int .i32 x.f4], rfl, rfl, rfl⟩⟩⟩⟩

/-! #### struct type 40 -/
structure S40 where
  f0 : ByteArray
  f1 : S38
  f2 : ByteArray
def z40 : S40 := ⟨(⟨#[]⟩ : ByteArray), z38, (⟨#[]⟩ : ByteArray)⟩
def k40 : Kd S40 := Kd.iso (Kd.pair Kd.string (Kd.pair k38 Kd.string)) (fun x : S40 => (x.f0, x.f1, x.f2))
theorem k40_open {w : World} {x : S40} {cs : List Value} (h : k40.K w x cs) : cs = [.string x.f0, .int .i64 x.f1.f0, .int .i64 x.f1.f1, .int .i64 x.f1.f2, .int .i64 x.f1.f3, .int .i32 x.f1.f4, .string x.f2] := by
  obtain ⟨_, _, rfl, rfl, ⟨_, _, rfl, s1, rfl⟩⟩ := h
  obtain rfl := k38_open s1
  exact rfl
theorem k40_mkM (w : World) (base : Nat) (ok : Nat → Prop) (x : S40)  : k40.M w base ok x [.string x.f0, .int .i64 x.f1.f0, .int .i64 x.f1.f1, .int .i64 x.f1.f2, .int .i64 x.f1.f3, .int .i32 x.f1.f4, .string x.f2] := ⟨[.string x.f0], [.int .i64 x.f1.f0, .int .i64 x.f1.f1, .int .i64 x.f1.f2, .int .i64 x.f1.f3, .int .i32 x.f1.f4, .string x.f2], rfl, rfl, ⟨[.int .i64 x.f1.f0, .int .i64 x.f1.f1, .int .i64 x.f1.f2, .int .i64 x.f1.f3, .int .i32 x.f1.f4], [.string x.f2], rfl, (k38_mkM w base ok x.f1 ), rfl⟩⟩
def rd_T40 (xs : List S40) (i : Int) : S40 := xs.getD i.toNat z40
theorem at_T40 {w : World} {A : Option Addr} {n : Nat} {xs : List S40} (h : Kd.C k40 w A n xs) (i : Int) (h0 : 0 ≤ i) (h1 : i < n) : ∃ ad , A = some ad ∧ w.cell? (ad.add (i.toNat * 7)) = some (.string (rd_T40 xs i).f0) ∧ w.cell? ⟨(ad.add (i.toNat * 7)).block, (ad.add (i.toNat * 7)).off + 1, none⟩ = some (.int .i64 (rd_T40 xs i).f1.f0) ∧ w.cell? ⟨(ad.add (i.toNat * 7)).block, (ad.add (i.toNat * 7)).off + 2, none⟩ = some (.int .i64 (rd_T40 xs i).f1.f1) ∧ w.cell? ⟨(ad.add (i.toNat * 7)).block, (ad.add (i.toNat * 7)).off + 3, none⟩ = some (.int .i64 (rd_T40 xs i).f1.f2) ∧ w.cell? ⟨(ad.add (i.toNat * 7)).block, (ad.add (i.toNat * 7)).off + 4, none⟩ = some (.int .i64 (rd_T40 xs i).f1.f3) ∧ w.cell? ⟨(ad.add (i.toNat * 7)).block, (ad.add (i.toNat * 7)).off + 5, none⟩ = some (.int .i32 (rd_T40 xs i).f1.f4) ∧ w.cell? ⟨(ad.add (i.toNat * 7)).block, (ad.add (i.toNat * 7)).off + 6, none⟩ = some (.string (rd_T40 xs i).f2) := by
  obtain ⟨ad, c, e, _, hK, hc0⟩ := Kd.C_get h z40 i h0 h1
  have hc : ∀ j u, c[j]? = some u → w.cell? (ad.add (i.toNat * 7 + j)) = some u := hc0
  obtain rfl := k40_open hK
  exact ⟨ad, e, hc 0 _ rfl, by rw [← add_field _ _ 1 (by omega)]; exact hc 1 _ rfl, by rw [← add_field _ _ 2 (by omega)]; exact hc 2 _ rfl, by rw [← add_field _ _ 3 (by omega)]; exact hc 3 _ rfl, by rw [← add_field _ _ 4 (by omega)]; exact hc 4 _ rfl, by rw [← add_field _ _ 5 (by omega)]; exact hc 5 _ rfl, by rw [← add_field _ _ 6 (by omega)]; exact hc 6 _ rfl⟩

def pm (n k : Nat) : Array Bool := ⟨List.replicate k true ++ List.replicate (n - k) false⟩
theorem gL {P : Program} {ops : Array Oper} {Q : Exit → Act → World → Prop} {rest : List Oper} {oi : Oper} {a : Act} {w : World} (N : Option Tmp) {f : FuncId} {fn : Func} {az : Array Operand} {ts : Array TypeId} (hf : P.funcs[f]? = some fn) (args : Array Value)
    (h : Calls P f args w fun e w' => ∃ v, e = .returned v ∧ wpList P ops Q rest (a.put N v) w') (hd : oi.dst = N := by rfl) (hg : oi.guard = none := by rfl) (hname : (fn.name == "runtime.NumGoroutine") = false := by kernel_rfl) (hb : fn.body.isSome = true := by rfl)
    (hop : oi.op = .call { callee := .value (.func f), args := az, argTypes := ts } := by rfl) (hargs : az.map a.eval = args := by (try simp only [List.map_toArray, List.map_cons, List.map_nil]); first | done|rfl|(simp only [List.length_drop, List.length_take]; rfl)) :
    wpList P ops Q (oi :: rest) a w := goesL_ N hd hg hf hname hb args hop hargs h
theorem bZ {w W : World} (h1 : Below w.heap.size w W := by repeat (first|(with_reducible first|exact HB.out|apply Q8|apply Q5|apply Q9)|exact HB.out)) : w.heap.size ≤ W.heap.size := below_size h1
theorem bK {W W' : World} {g : Nat} {o : Obj} (h : Aside0 (W.heap[g]? = some o)) (k : W.heap[g]? = some o → W'.heap[g]? = some o := by intro h; (with_reducible repeat (first|refine Qa ?_ _|refine Qb ?_|refine Q7 ?_ _)); exact h) : W'.heap[g]? = some o := k h.out
theorem rK {α : Type} {d : Kd α} {e : TypeId} {W W' : World} {n : Nat} {ok : Nat → Prop} {v : Value} {xs : List α} (h : Aside0 (Kd.R d e W n ok v xs)) (k : Kd.R d e W n ok v xs → Kd.R d e W' n ok v xs := by intro h; (with_reducible repeat (first|apply Kd.R_alloc|apply Kd.R_drewN|apply Kd.R_drew)); exact h) : Kd.R d e W' n ok v xs := k h.out
end Go.Proofs.YtbelnkdbghggmaaGreatDoor.X
namespace Go.Proofs.YtbelnkdbghggmaaGreatDoor.X
open Go.RowKit Go.Proofs.YtbelnkdbghggmaaGreatDoorW.PrintWords Go.Proofs.YtbelnkdbghggmaaGreatDoorW.PrintLast

set_option linter.unusedVariables false
set_option linter.unusedSimpArgs false

/-! ### inst_known: function 57 -/
def inst_known.f (a0 : Int) : Option (Bool) := if a0 ≥ 0 then (some (decide (a0 < 26))) else (some false)
set_option maxHeartbeats 8000000 in
set_option maxRecDepth 100000 in
theorem inst_known.calls (a0 : Int) (r : Bool) (w : World) (h : inst_known.f a0 = some r) :
    Calls Tryz.prog 57 #[.int .i64 a0] w fun e w' => e = .returned (.bool r) ∧ Drawn0 w w' := by
  have H : (if a0 ≥ 0 then (some (decide (a0 < 26))) else (some false)) = some r := h
  clear h
  by_cases c2 : a0 ≥ 0
  · rw [if_pos c2] at H
    have c2b0 : decide (0 ≤ a0) = true := decide_eq_true c2
    clear c2
    obtain rfl := Option.some.inj H
    go_enter Tryz.func57, Tryz.ntmps57
    go_wp2
    go_ret
    exact ⟨by first | rfl | (simp; done) | (simp [*]; done), by repeat (first | exact Drawn0.refl _ | apply Drawn0.step)⟩
  · rw [if_neg c2] at H
    have c2b0 : decide (0 ≤ a0) = false := decide_eq_false c2
    clear c2
    obtain rfl := Option.some.inj H
    go_enter Tryz.func57, Tryz.ntmps57
    go_wp2
    go_ret
    exact ⟨by first | rfl | (simp; done) | (simp [*]; done), by repeat (first | exact Drawn0.refl _ | apply Drawn0.step)⟩

-- NOT PRINTED: function 53 (inst_parts)

-- NOT PRINTED: function 40 (inst_Fit)

-- NOT PRINTED: function 50 (inst_Encode)

-- NOT PRINTED: function 24 (inst_Decode)
end Go.Proofs.YtbelnkdbghggmaaGreatDoor.X
namespace Go.Proofs.YtbelnkdbghggmaaGreatDoor.X
open Go.RowKit Go.Proofs.YtbelnkdbghggmaaGreatDoorW.PrintWords Go.Proofs.YtbelnkdbghggmaaGreatDoorW.PrintLast
set_option linter.unusedVariables false
set_option linter.unusedSimpArgs false
/-- What each instruction is called, and which parts it uses. -/
def kindsL : List (ByteArray × ByteArray) := [((⟨#[104, 97, 108, 116]⟩ : ByteArray), (⟨#[]⟩ : ByteArray)), ((⟨#[109, 111, 118, 105]⟩ : ByteArray), (⟨#[97, 105]⟩ : ByteArray)), ((⟨#[109, 111, 118, 104]⟩ : ByteArray), (⟨#[97, 105]⟩ : ByteArray)), ((⟨#[109, 111, 118]⟩ : ByteArray), (⟨#[97, 98]⟩ : ByteArray)), ((⟨#[97, 100, 100]⟩ : ByteArray), (⟨#[97, 98, 99]⟩ : ByteArray)), ((⟨#[115, 117, 98]⟩ : ByteArray), (⟨#[97, 98, 99]⟩ : ByteArray)), ((⟨#[109, 117, 108]⟩ : ByteArray), (⟨#[97, 98, 99]⟩ : ByteArray)), ((⟨#[100, 105, 118]⟩ : ByteArray), (⟨#[97, 98, 99]⟩ : ByteArray)), ((⟨#[114, 101, 109]⟩ : ByteArray), (⟨#[97, 98, 99]⟩ : ByteArray)), ((⟨#[97, 110, 100]⟩ : ByteArray), (⟨#[97, 98, 99]⟩ : ByteArray)), ((⟨#[111, 114]⟩ : ByteArray), (⟨#[97, 98, 99]⟩ : ByteArray)), ((⟨#[120, 111, 114]⟩ : ByteArray), (⟨#[97, 98, 99]⟩ : ByteArray)), ((⟨#[115, 104, 108]⟩ : ByteArray), (⟨#[97, 98, 99]⟩ : ByteArray)), ((⟨#[115, 104, 114]⟩ : ByteArray), (⟨#[97, 98, 99]⟩ : ByteArray)), ((⟨#[97, 100, 100, 105]⟩ : ByteArray), (⟨#[97, 98, 105]⟩ : ByteArray)), ((⟨#[101, 113]⟩ : ByteArray), (⟨#[97, 98, 99]⟩ : ByteArray)), ((⟨#[108, 116, 117]⟩ : ByteArray), (⟨#[97, 98, 99]⟩ : ByteArray)), ((⟨#[108, 116, 115]⟩ : ByteArray), (⟨#[97, 98, 99]⟩ : ByteArray)), ((⟨#[106, 109, 112]⟩ : ByteArray), (⟨#[105]⟩ : ByteArray)), ((⟨#[106, 122]⟩ : ByteArray), (⟨#[97, 105]⟩ : ByteArray)), ((⟨#[106, 110, 122]⟩ : ByteArray), (⟨#[97, 105]⟩ : ByteArray)), ((⟨#[99, 97, 108, 108]⟩ : ByteArray), (⟨#[97, 105]⟩ : ByteArray)), ((⟨#[106, 114]⟩ : ByteArray), (⟨#[97]⟩ : ByteArray)), ((⟨#[108, 111, 97, 100]⟩ : ByteArray), (⟨#[97, 98, 105]⟩ : ByteArray)), ((⟨#[115, 116, 111, 114, 101]⟩ : ByteArray), (⟨#[97, 98, 105]⟩ : ByteArray)), ((⟨#[116, 114, 97, 112]⟩ : ByteArray), (⟨#[105]⟩ : ByteArray))]
def kindsV : Array Value := #[.string (⟨#[104, 97, 108, 116]⟩ : ByteArray), .string (⟨#[]⟩ : ByteArray), .string (⟨#[109, 111, 118, 105]⟩ : ByteArray), .string (⟨#[97, 105]⟩ : ByteArray), .string (⟨#[109, 111, 118, 104]⟩ : ByteArray), .string (⟨#[97, 105]⟩ : ByteArray), .string (⟨#[109, 111, 118]⟩ : ByteArray), .string (⟨#[97, 98]⟩ : ByteArray), .string (⟨#[97, 100, 100]⟩ : ByteArray), .string (⟨#[97, 98, 99]⟩ : ByteArray), .string (⟨#[115, 117, 98]⟩ : ByteArray), .string (⟨#[97, 98, 99]⟩ : ByteArray), .string (⟨#[109, 117, 108]⟩ : ByteArray), .string (⟨#[97, 98, 99]⟩ : ByteArray), .string (⟨#[100, 105, 118]⟩ : ByteArray), .string (⟨#[97, 98, 99]⟩ : ByteArray), .string (⟨#[114, 101, 109]⟩ : ByteArray), .string (⟨#[97, 98, 99]⟩ : ByteArray), .string (⟨#[97, 110, 100]⟩ : ByteArray), .string (⟨#[97, 98, 99]⟩ : ByteArray), .string (⟨#[111, 114]⟩ : ByteArray), .string (⟨#[97, 98, 99]⟩ : ByteArray), .string (⟨#[120, 111, 114]⟩ : ByteArray), .string (⟨#[97, 98, 99]⟩ : ByteArray), .string (⟨#[115, 104, 108]⟩ : ByteArray), .string (⟨#[97, 98, 99]⟩ : ByteArray), .string (⟨#[115, 104, 114]⟩ : ByteArray), .string (⟨#[97, 98, 99]⟩ : ByteArray), .string (⟨#[97, 100, 100, 105]⟩ : ByteArray), .string (⟨#[97, 98, 105]⟩ : ByteArray), .string (⟨#[101, 113]⟩ : ByteArray), .string (⟨#[97, 98, 99]⟩ : ByteArray), .string (⟨#[108, 116, 117]⟩ : ByteArray), .string (⟨#[97, 98, 99]⟩ : ByteArray), .string (⟨#[108, 116, 115]⟩ : ByteArray), .string (⟨#[97, 98, 99]⟩ : ByteArray), .string (⟨#[106, 109, 112]⟩ : ByteArray), .string (⟨#[105]⟩ : ByteArray), .string (⟨#[106, 122]⟩ : ByteArray), .string (⟨#[97, 105]⟩ : ByteArray), .string (⟨#[106, 110, 122]⟩ : ByteArray), .string (⟨#[97, 105]⟩ : ByteArray), .string (⟨#[99, 97, 108, 108]⟩ : ByteArray), .string (⟨#[97, 105]⟩ : ByteArray), .string (⟨#[106, 114]⟩ : ByteArray), .string (⟨#[97]⟩ : ByteArray), .string (⟨#[108, 111, 97, 100]⟩ : ByteArray), .string (⟨#[97, 98, 105]⟩ : ByteArray), .string (⟨#[115, 116, 111, 114, 101]⟩ : ByteArray), .string (⟨#[97, 98, 105]⟩ : ByteArray), .string (⟨#[116, 114, 97, 112]⟩ : ByteArray), .string (⟨#[105]⟩ : ByteArray)]
theorem run_store_new {P : Program} {a : Act} {o : Oper} (t : TypeId) (x y : Operand) (ho : o.op = .store t x y) (w : World) (c c' : Array Value) (hx : a.eval x = .pointer (some ⟨w.heap.size, 0, none⟩)) (hy : a.eval y = .agg c') (hi : (P.info? t).map (·.size) = some c'.size) (hs : c.size = c'.size) (h1 : c'.all (·.oneCell') = true) :
    (execOp a.eval o).run P (w.alloc (.cells c t)) = .ok .skip (w.alloc (.cells c' t)) := by
  unfold execOp
  simp only [ho, hx, hy, Sem.run_bind, Sem.run_pure, run_storeAt_new w t c c' hi hs h1, Result.andThen_ok]
def zerosV : Array Value := #[.string ByteArray.empty, .string ByteArray.empty, .string ByteArray.empty, .string ByteArray.empty, .string ByteArray.empty, .string ByteArray.empty, .string ByteArray.empty, .string ByteArray.empty, .string ByteArray.empty, .string ByteArray.empty, .string ByteArray.empty, .string ByteArray.empty, .string ByteArray.empty, .string ByteArray.empty, .string ByteArray.empty, .string ByteArray.empty, .string ByteArray.empty, .string ByteArray.empty, .string ByteArray.empty, .string ByteArray.empty, .string ByteArray.empty, .string ByteArray.empty, .string ByteArray.empty, .string ByteArray.empty, .string ByteArray.empty, .string ByteArray.empty, .string ByteArray.empty, .string ByteArray.empty, .string ByteArray.empty, .string ByteArray.empty, .string ByteArray.empty, .string ByteArray.empty, .string ByteArray.empty, .string ByteArray.empty, .string ByteArray.empty, .string ByteArray.empty, .string ByteArray.empty, .string ByteArray.empty, .string ByteArray.empty, .string ByteArray.empty, .string ByteArray.empty, .string ByteArray.empty, .string ByteArray.empty, .string ByteArray.empty, .string ByteArray.empty, .string ByteArray.empty, .string ByteArray.empty, .string ByteArray.empty, .string ByteArray.empty, .string ByteArray.empty, .string ByteArray.empty, .string ByteArray.empty]
theorem kinds_info : (Tryz.prog.info? 97).map (·.size) = some kindsV.size := by kernel_rfl
theorem kinds_one : kindsV.all (·.oneCell') = true := by kernel_rfl
set_option maxRecDepth 100000 in
set_option maxHeartbeats 8000000 in
theorem kinds_any (w : World) : Calls Tryz.prog 52 #[] w fun e w' => e = .returned (.agg kindsV) ∧ Below w.heap.size w w' := by
  have hu49 := Tryz.underlying97
  have hu48 := Tryz.underlying96
  have HB := Aside0.mk (Below.refl w.heap.size w)
  go_enter Tryz.func52, Tryz.ntmps52
  go_wp2_with ((with_reducible refine gate_store (t := 97) (p := 0) rfl ?_); refine store_event (t := 97) (p := 0) (v := .tmp 27) (w1 := w.alloc (.cells kindsV 97)) rfl rfl rfl ?hr ?_; (case hr => exact run_store_new 97 (.tmp 0) (.tmp 27) rfl w zerosV kindsV rfl rfl kinds_info rfl kinds_one); intro w1 hw; subst hw)
  refine bodyPost_ret (results_cell_row rfl _ _ w.heap.size 97 kindsV (0, 0) _ rfl (blk_new w _) Tryz.underlying97 rfl kinds_info) rfl ?_
  exact ⟨rfl, below_alloc (Below.refl _ _) _⟩
end Go.Proofs.YtbelnkdbghggmaaGreatDoor.X
namespace Go.Proofs.YtbelnkdbghggmaaGreatDoor.X
open Go.RowKit Go.Proofs.YtbelnkdbghggmaaGreatDoorW.PrintWords Go.Proofs.YtbelnkdbghggmaaGreatDoorW.PrintLast
set_option linter.unusedVariables false
set_option linter.unusedSimpArgs false
/-- What an instruction is called; which parts it uses. -/
def nameN (n : Nat) : ByteArray := (kindsL.getD n (ByteArray.empty, ByteArray.empty)).1
def shapeN (n : Nat) : ByteArray := (kindsL.getD n (ByteArray.empty, ByteArray.empty)).2
def shapeOf (op : Int) : ByteArray := if 0 ≤ op ∧ op < 26 then shapeN op.toNat else ByteArray.empty
theorem kinds_at : ∀ n, n < 26 → kindsV.extract (n * 2) (n * 2 + 2) = #[.string (nameN n), .string (shapeN n)]
  | 0, _ => rfl
  | 1, _ => rfl
  | 2, _ => rfl
  | 3, _ => rfl
  | 4, _ => rfl
  | 5, _ => rfl
  | 6, _ => rfl
  | 7, _ => rfl
  | 8, _ => rfl
  | 9, _ => rfl
  | 10, _ => rfl
  | 11, _ => rfl
  | 12, _ => rfl
  | 13, _ => rfl
  | 14, _ => rfl
  | 15, _ => rfl
  | 16, _ => rfl
  | 17, _ => rfl
  | 18, _ => rfl
  | 19, _ => rfl
  | 20, _ => rfl
  | 21, _ => rfl
  | 22, _ => rfl
  | 23, _ => rfl
  | 24, _ => rfl
  | 25, _ => rfl
  | n + 26, h => absurd h (by omega)
theorem index_kinds (n : Nat) (hn : n < 26) (w : World) : (Instr.index 97 (.agg kindsV) (.int .i64 (n : Int))).run Tryz.prog w = .ok (.agg #[.string (nameN n), .string (shapeN n)]) w := by
  have h := Tryz.underlying97
  have hn1 : 0 ≤ (n : Int) ∧ (n : Int) < ((26 : Nat) : Int) := by omega
  rw [← kinds_at n hn]
  simp [Instr.index, run_underlying h, asIntOf, hn1, go_sem]
  intro hh
  omega
theorem field_kinds (a b : ByteArray) (w : World) : (Instr.field 96 (.agg #[.string a, .string b]) 1).run Tryz.prog w = .ok (.string b) w := by
  have h := Tryz.underlying96
  have h9 := Tryz.underlying9
  have hc9 : Tryz.prog.cellsOf 9 = 1 := by kernel_rfl
  simp [Instr.field, run_underlying h, run_underlying h9, hc9, asAgg, go_sem]
theorem field_name (a b : ByteArray) (w : World) : (Instr.field 96 (.agg #[.string a, .string b]) 0).run Tryz.prog w = .ok (.string a) w := by
  have h := Tryz.underlying96
  have h9 := Tryz.underlying9
  have hc9 : Tryz.prog.cellsOf 9 = 1 := by kernel_rfl
  simp [Instr.field, run_underlying h, run_underlying h9, hc9, asAgg, go_sem]
set_option maxRecDepth 100000 in
set_option maxHeartbeats 8000000 in
theorem Shape_in (n : Nat) (hn : n < 26) (w : World) : Calls Tryz.prog 31 #[.int .i64 (n : Int)] w fun e w' => e = .returned (.string (shapeN n)) ∧ Below w.heap.size w w' := by
  have hu49 := Tryz.underlying97
  have hu48 := Tryz.underlying96
  have HK := Aside0.mk (show inst_known.f (n : Int) = some true by unfold inst_known.f; rw [if_pos (by omega), decide_eq_true (by omega)])
  have hix := fun W => index_kinds n hn W
  have hfi := fun W => field_kinds (nameN n) (shapeN n) W
  go_enter Tryz.func31, Tryz.ntmps31
  go_wp2_with (first | (go_at_call 57; (with_reducible refine (inst_known.calls (n : Int) true _ HK.out).mono ?_); rintro e w1 ⟨rfl, ⟨nd, rfl⟩⟩) | (go_at_call 52; (with_reducible refine (kinds_any _).mono ?_); rintro e w2 ⟨rfl, hb⟩))
  go_ret
  exact ⟨rfl, below_step (by repeat (first | exact Below.refl _ _ | apply pw_below_drewN | apply below_drew1)) hb⟩
set_option maxRecDepth 100000 in
set_option maxHeartbeats 8000000 in
theorem Shape_out (op : Int) (h : ¬ (0 ≤ op ∧ op < 26)) (w : World) : Calls Tryz.prog 31 #[.int .i64 op] w fun e w' => e = .returned (.string ByteArray.empty) ∧ Below w.heap.size w w' := by
  have HK := Aside0.mk (show inst_known.f op = some false by
    unfold inst_known.f
    by_cases h0 : op ≥ 0
    · rw [if_pos h0, decide_eq_false (by omega)]
    · rw [if_neg h0])
  clear h
  go_enter Tryz.func31, Tryz.ntmps31
  go_wp2_with (go_at_call 57; (with_reducible refine (inst_known.calls op false _ HK.out).mono ?_); rintro e w1 ⟨rfl, ⟨nd, rfl⟩⟩)
  go_ret
  exact ⟨rfl, by repeat (first | exact Below.refl _ _ | apply pw_below_drewN | apply below_drew1)⟩
def inst_Shape.f (a0 : Int) : Option ByteArray := some (shapeOf a0)
theorem inst_Shape.calls (a0 : Int) (r : ByteArray) (w : World) (h : inst_Shape.f a0 = some r) :
    Calls Tryz.prog 31 #[.int .i64 a0] w fun e w' => e = .returned (.string r) ∧ Below w.heap.size w w' := by
  obtain rfl := Option.some.inj h
  unfold shapeOf
  by_cases hh : 0 ≤ a0 ∧ a0 < 26
  · rw [if_pos hh]
    obtain ⟨n, rfl⟩ : ∃ m : Nat, a0 = (m : Int) := ⟨a0.toNat, by omega⟩
    rw [Int.toNat_natCast]
    exact Shape_in n (by omega) w
  · rw [if_neg hh]
    exact Shape_out a0 hh w
end Go.Proofs.YtbelnkdbghggmaaGreatDoor.X
namespace Go.Proofs.YtbelnkdbghggmaaGreatDoor.X
open Go.RowKit Go.Proofs.YtbelnkdbghggmaaGreatDoorW.PrintWords Go.Proofs.YtbelnkdbghggmaaGreatDoorW.PrintLast
set_option linter.unusedVariables false
set_option linter.unusedSimpArgs false
set_option maxHeartbeats 1000000 in
set_option maxRecDepth 100000 in
theorem liteIndexByte_any (s : ByteArray) (c : Int) (w : World) :
    Calls Tryz.prog 70 #[.string s, .int .u8 c] w fun e w' => e = .returned (.int .i64 (Lib.indexByte s.data.toList c.toNat.toUInt8)) ∧ w' = w := by
  go_enter Tryz.func70, Tryz.ntmps70
  go_wp2
  rw [run_callFunc_extern Tryz.func81 (by kernel_rfl) (by kernel_rfl) (by kernel_rfl) (e := Extern.BytealgIndexByte.indexByte) (by kernel_rfl), Lib.run_indexByteString]
  simp only [Result.andThen]
  rw [Oper.upon_value]
  go_wp2
  go_ret
  exact ⟨rfl, rfl⟩
set_option maxHeartbeats 1000000 in
set_option maxRecDepth 100000 in
theorem IndexByte_any (s : ByteArray) (c : Int) (w : World) :
    Calls Tryz.prog 69 #[.string s, .int .u8 c] w fun e w' => e = .returned (.int .i64 (Lib.indexByte s.data.toList c.toNat.toUInt8)) ∧ w' = w := by
  go_enter Tryz.func69, Tryz.ntmps69
  go_wp2_with (go_at_call 70; (with_reducible refine (liteIndexByte_any s c _).mono ?_); rintro e w1 ⟨rfl, rfl⟩)
  go_ret
  exact ⟨rfl, rfl⟩
end Go.Proofs.YtbelnkdbghggmaaGreatDoor.X
namespace Go.Proofs.YtbelnkdbghggmaaGreatDoor.X
open Go.RowKit Go.Shelf Go.Proofs.YtbelnkdbghggmaaGreatDoorW.PrintWords Go.Proofs.YtbelnkdbghggmaaGreatDoorW.PrintLast
attribute [local go_sem] Oper.semAt_some
set_option linter.unusedVariables false
set_option linter.unusedSimpArgs false
/-- What a yield leaves: the elder world, and every block of cells but one. -/
def KeepC (n₀ R : Nat) (A B : World) : Prop := Below n₀ A B ∧ ∀ (i : Nat) (o : Obj), i ≠ R → A.heap[i]? = some o → o.isCells = true → B.heap[i]? = some o
theorem KeepC.refl (n₀ R : Nat) (A : World) : KeepC n₀ R A A := ⟨Below.refl _ _, fun _ _ _ h _ => h⟩
theorem KeepC.trans {n₀ R : Nat} {A B C : World} (h : KeepC n₀ R A B) (k : KeepC n₀ R B C) : KeepC n₀ R A C :=
  ⟨h.1.trans k.1, fun i o hi ho hc => k.2 i o hi (h.2 i o hi ho hc) hc⟩
theorem KeepC.putObj {n₀ R : Nat} {w : World} (hn : n₀ ≤ w.heap.size) (W : World) (l : Nat) (o o' : Obj) (hl : w.heap.size ≤ l) (h : W.heap[l]? = some o) (h1 : o.isCells = false) (h2 : o.isWalk = false) : KeepC n₀ R W (W.putObj l o') :=
  ⟨belowK_b hn W l o o' hl h h1 h2, fun i p hi hp hc => (World.putObj_heap_other (fun e => by subst e; rw [h] at hp; injection hp with hp; rw [← hp, h1] at hc; cases hc)).trans hp⟩
theorem KeepC.of_below {n₀ R : Nat} {A B : World} (h : Below A.heap.size A B) (hn : n₀ ≤ A.heap.size) : KeepC n₀ R A B :=
  ⟨h.mono hn, fun i o _ ho _ => (h.block i (Array.getElem?_eq_some_iff.1 ho).1).trans ho⟩
theorem KeepC.blk {n₀ R : Nat} {A B : World} (h : KeepC n₀ R A B) {i : Nat} (hi : i ≠ R) {cs : Array Value} {t : TypeId} (ho : A.heap[i]? = some (.cells cs t (0, 0))) : B.heap[i]? = some (.cells cs t (0, 0)) := h.2 i _ hi ho rfl
/-- The parts' letters and numbers. -/
def letter : Nat → Int
  | 0 => 97
  | 1 => 98
  | 2 => 99
  | _ => 105
def num (a b c e : Int) : Nat → Int
  | 0 => a
  | 1 => b
  | 2 => c
  | _ => e
def uses (op : Int) (k : Nat) : Bool := decide (0 ≤ Lib.indexByte (shapeOf op).data.toList (letter k).toNat.toUInt8)
def partV (op a b c e : Int) (k : Nat) : Value := .agg #[.int .u8 (letter k), .int .i64 (num a b c e k), .bool (uses op k)]
theorem parts_calls (v : Array Value) (w : World) : Calls Tryz.prog 53 #[.agg v] w fun e w' => e = .returned (.func (.func 68) #[] #[.pointer (some ⟨w.heap.size, 0, none⟩)]) ∧ w' = w.alloc (.cells v 38) := by
  go_enter Tryz.func53, Tryz.ntmps53
  go_wp2
  go_ret
  exact ⟨rfl, rfl⟩
set_option maxRecDepth 100000 in
set_option maxHeartbeats 8000000 in
theorem parts1_in (n : Nat) (hn : 1 ≤ n) (l B R : Nat) (n₀ : Nat) (op a b c e : Int) (he : -2147483648 ≤ e ∧ e ≤ 2147483647) (J Jx : List Nat → World → Prop) (W : World) (hn0 : n₀ ≤ W.heap.size) (hJ : AbidesFrom W.heap.size J)
    (hY : ∀ pre (x : Nat) W1, J pre W1 → pre.length < 4 → YieldAt Fence.wide (n - 1) Tryz.prog l #[partV op a b c e x] W1 fun e W' =>
      (e = .returned (.bool true) ∧ J (pre ++ [x]) W' ∧ KeepC n₀ R W1 W') ∨ (e = .returned (.bool false) ∧ Jx (pre ++ [x]) W'))
    (hB : W.heap[B]? = some (.cells #[.int .i64 op, .int .i64 a, .int .i64 b, .int .i64 c, .int .i32 e] 38 (0, 0))) (hBR : B ≠ R) (hR : R < W.heap.size) (h0 : J [] W) :
    CallsIn Fence.wide n Tryz.prog 68 #[.func (.yield l) #[] #[], .pointer (some ⟨B, 0, none⟩)] W fun e W' => (∃ v, e = .returned v) ∧
      ((∃ ys, ys = List.range 4 ∧ J ys W') ∨ (∃ pre, pre <+: List.range 4 ∧ Jx pre W')) := by
  have hshape := fun n W => (callsIn_wide (n := n)).2 (inst_Shape.calls op (shapeOf op) W rfl)
  have hidx := fun n c W => (callsIn_wide (n := n)).2 (IndexByte_any (shapeOf op) c W)
  have hc0 := blk_cell hB 0
  have hc1 := blk_cell hB 1
  have hc2 := blk_cell hB 2
  have hc3 := blk_cell hB 3
  have hc4 := blk_cell hB 4
  simp only [List.getElem?_toArray, List.getElem?_cons_zero, List.getElem?_cons_succ] at hc0 hc1 hc2 hc3 hc4
  refine callsIn_of_wp Tryz.func68 rfl trivial ?_ rfl
  simp only [Tryz.ntmps68, List.size_toArray, List.length_cons, List.length_nil, Nat.reduceAdd, Nat.reduceSub, Array.replicate_succ, Array.replicate_zero, List.push_toArray, List.append_toArray, List.nil_append, List.cons_append]
  gi_wp2_with (refine ⟨trivial, ?_⟩; gi_at_call 31; refine (hshape _ _).mono ?_; rintro e_ w2 ⟨rfl, hb⟩; have hB2 := blk_below hB hb; have hd1 := blk_cell hB2 1; have hd2 := blk_cell hB2 2; have hd3 := blk_cell hB2 3; have hd4 := blk_cell hB2 4; simp only [List.getElem?_toArray, List.getElem?_cons_zero, List.getElem?_cons_succ] at hd1 hd2 hd3 hd4)
  obtain ⟨W2, hW2⟩ : ∃ W2, W2 = w2.alloc (.cells #[.int .i64 a, .int .i64 b, .int .i64 c, .int .i64 e] 3) := ⟨_, rfl⟩
  have hs2 := hb.size
  have hBel : Below W.heap.size W W2 := by rw [hW2]; exact below_alloc hb _
  have hSB : W2.heap[w2.heap.size]? = some (.cells #[.int .i64 a, .int .i64 b, .int .i64 c, .int .i64 e] 3 (0, 0)) := by rw [hW2]; exact blk_new w2 _
  have hsW2 : w2.heap.size < W2.heap.size := by rw [hW2]; simp
  rw [← hW2]
  have hJ0 : J [] W2 := hJ [] W W2 none h0 (grown_of_below hBel none) (fun r e => by cases e)
  have HSR : w2.heap.size ≠ R := by omega
  generalize w2.heap.size = SB at hSB hsW2 HSR
  clear hW2 hb hB2 hd1 hd2 hd3 hd4 hc0 hc1 hc2 hc3 hc4 hs2
  gi_loopw [21] (fun i wr => ∃ k : Nat, k ≤ 4 ∧ i = .int .i64 k ∧ J (List.range k) wr ∧ KeepC n₀ R W2 wr) (fun i _ => 4 - (intOf i).toNat)
  case atStart => exact ⟨0, Nat.zero_le _, rfl, hJ0, KeepC.refl _ _ _⟩
  case round =>
    obtain ⟨k, hk, rfl, hJs, hkb⟩ := hrel
    by_cases hlt : k < 4
    · have hx := hkb.blk HSR hSB
      have hy0 := hY (List.range k) k wr hJs (by simpa using hlt)
      have hx0 := blk_cell hx 0
      have hx1 := blk_cell hx 1
      have hx2 := blk_cell hx 2
      have hx3 := blk_cell hx 3
      simp only [List.getElem?_toArray, List.getElem?_cons_zero, List.getElem?_cons_succ] at hx0 hx1 hx2 hx3
      have hrs : List.range k ++ [k] = List.range (k + 1) := List.range_succ.symm
      rw [hrs] at hy0
      have hpre : List.range (k + 1) <+: List.range 4 := ⟨(List.range 4).drop (k + 1), by rcases k with _ | _ | _ | _ | k <;> first | rfl | omega⟩
      have HP := Lib.hid hpre
      have HKB := Lib.hid hkb
      clear hrs hpre hkb hx hJs
      unfold partV at hy0
      obtain rfl | rfl | rfl | rfl : k = 0 ∨ k = 1 ∨ k = 2 ∨ k = 3 := by omega
      · have hik := fun n W => hidx n 97 W
        have hl_ : ((⟨#[97, 98, 99, 105]⟩ : ByteArray)[0]'(by decide)).toNat = 97 := rfl
        unfold uses at hy0
        simp only [letter, num] at hy0
        generalize Lib.indexByte (shapeOf op).data.toList (Int.toNat 97).toUInt8 = jj at hik hy0
        clear hidx
        obtain ⟨fn, tmps, assign, body, hy, hR⟩ := hy0
        gi_wp2_with (refine ⟨trivial, ?_⟩; gi_at_call 69; refine (hik _ _).mono ?_; rintro e_ w5 ⟨rfl, rfl⟩)
        refine hR.mono ?_
        rintro e_ W3 (⟨rfl, hJ3, hk3⟩ | ⟨rfl, hJx3⟩)
        · gi_wp2
          go_roundw
          case rel => exact ⟨1, by omega, by go_num, hJ3, HKB.out.trans hk3⟩
          case measure => simp [intOf]
        · gi_wp2
          refine bodyPost_ret (results_none rfl _ _ _) rfl ?_
          exact ⟨⟨_, rfl⟩, .inr ⟨_, HP.out, hJx3⟩⟩
      · have hik := fun n W => hidx n 98 W
        have hl_ : ((⟨#[97, 98, 99, 105]⟩ : ByteArray)[1]'(by decide)).toNat = 98 := rfl
        unfold uses at hy0
        simp only [letter, num] at hy0
        generalize Lib.indexByte (shapeOf op).data.toList (Int.toNat 98).toUInt8 = jj at hik hy0
        clear hidx
        obtain ⟨fn, tmps, assign, body, hy, hR⟩ := hy0
        gi_wp2_with (refine ⟨trivial, ?_⟩; gi_at_call 69; refine (hik _ _).mono ?_; rintro e_ w5 ⟨rfl, rfl⟩)
        refine hR.mono ?_
        rintro e_ W3 (⟨rfl, hJ3, hk3⟩ | ⟨rfl, hJx3⟩)
        · gi_wp2
          go_roundw
          case rel => exact ⟨2, by omega, by go_num, hJ3, HKB.out.trans hk3⟩
          case measure => simp [intOf]
        · gi_wp2
          refine bodyPost_ret (results_none rfl _ _ _) rfl ?_
          exact ⟨⟨_, rfl⟩, .inr ⟨_, HP.out, hJx3⟩⟩
      · have hik := fun n W => hidx n 99 W
        have hl_ : ((⟨#[97, 98, 99, 105]⟩ : ByteArray)[2]'(by decide)).toNat = 99 := rfl
        unfold uses at hy0
        simp only [letter, num] at hy0
        generalize Lib.indexByte (shapeOf op).data.toList (Int.toNat 99).toUInt8 = jj at hik hy0
        clear hidx
        obtain ⟨fn, tmps, assign, body, hy, hR⟩ := hy0
        gi_wp2_with (refine ⟨trivial, ?_⟩; gi_at_call 69; refine (hik _ _).mono ?_; rintro e_ w5 ⟨rfl, rfl⟩)
        refine hR.mono ?_
        rintro e_ W3 (⟨rfl, hJ3, hk3⟩ | ⟨rfl, hJx3⟩)
        · gi_wp2
          go_roundw
          case rel => exact ⟨3, by omega, by go_num, hJ3, HKB.out.trans hk3⟩
          case measure => simp [intOf]
        · gi_wp2
          refine bodyPost_ret (results_none rfl _ _ _) rfl ?_
          exact ⟨⟨_, rfl⟩, .inr ⟨_, HP.out, hJx3⟩⟩
      · have hik := fun n W => hidx n 105 W
        have hl_ : ((⟨#[97, 98, 99, 105]⟩ : ByteArray)[3]'(by decide)).toNat = 105 := rfl
        unfold uses at hy0
        simp only [letter, num] at hy0
        generalize Lib.indexByte (shapeOf op).data.toList (Int.toNat 105).toUInt8 = jj at hik hy0
        clear hidx
        obtain ⟨fn, tmps, assign, body, hy, hR⟩ := hy0
        gi_wp2_with (refine ⟨trivial, ?_⟩; gi_at_call 69; refine (hik _ _).mono ?_; rintro e_ w5 ⟨rfl, rfl⟩)
        refine hR.mono ?_
        rintro e_ W3 (⟨rfl, hJ3, hk3⟩ | ⟨rfl, hJx3⟩)
        · gi_wp2
          go_roundw
          case rel => exact ⟨4, by omega, by go_num, hJ3, HKB.out.trans hk3⟩
          case measure => simp [intOf]
        · gi_wp2
          refine bodyPost_ret (results_none rfl _ _ _) rfl ?_
          exact ⟨⟨_, rfl⟩, .inr ⟨_, HP.out, hJx3⟩⟩
    · obtain rfl : k = 4 := by omega
      gi_wp2
      go_end0
      exact ⟨⟨_, rfl⟩, .inl ⟨_, rfl, hJs⟩⟩
theorem parts_stops (n : Nat) (hn : 1 ≤ n) (B R n₀ : Nat) (op a b c e : Int) (he : -2147483648 ≤ e ∧ e ≤ 2147483647) (w : World) (hB : w.heap[B]? = some (.cells #[.int .i64 op, .int .i64 a, .int .i64 b, .int .i64 c, .int .i32 e] 38 (0, 0))) (hBR : B ≠ R) (hR : R < w.heap.size) (hn0 : n₀ ≤ w.heap.size) :
    SeqStopsK Fence.wide n Tryz.prog 68 #[.pointer (some ⟨B, 0, none⟩)] (fun x : Nat => #[partV op a b c e x]) (KeepC n₀ R) (fun ys => ys = List.range 4) (fun pre => pre <+: List.range 4) 4 w := fun l J Jx W hW hJ hJx hY h0 =>
  parts1_in n hn l B R n₀ op a b c e he J Jx W (Nat.le_trans hn0 hW.size) hJ hY (blk_below hB hW) hBR (Nat.lt_of_lt_of_le hR hW.size) h0
theorem blk_own {β : Type} (i : Nat) (cs : Array Value) (t : TypeId) : Own (fun (_ : β) W => W.heap[i]? = some (.cells cs t (0, 0))) := fun s X Y row hs hg hrow =>
  blk_grown hs hg (fun e => by obtain ⟨o, ho, hc⟩ := hrow i e.symm; rw [show X.heap[i]? = _ from hs] at ho; cases ho; cases hc)
end Go.Proofs.YtbelnkdbghggmaaGreatDoor.X
namespace Go.Proofs.YtbelnkdbghggmaaGreatDoor.X
open Go.RowKit Go.Shelf Go.Proofs.YtbelnkdbghggmaaGreatDoorW.PrintWords Go.Proofs.YtbelnkdbghggmaaGreatDoorW.PrintLast
attribute [local go_sem] Oper.semAt_some
set_option linter.unusedVariables false
set_option linter.unusedSimpArgs false
/-- A part that can't be. -/
def bad (op a b c e : Int) (k : Nat) : Bool := (!(uses op k) && (num a b c e k != 0)) || (letter k != 105 && (decide (num a b c e k < 0) || decide (num a b c e k ≥ 16)))
def fitP (op a b c e : Int) : Bool := (List.range 4).all (fun k => !(bad op a b c e k))
theorem blk_new1 (w : World) (o : Obj) (n : Nat) (hn : n = w.heap.size) : (w.alloc o).heap[n]? = some o := hn ▸ blk_new w o
set_option maxRecDepth 100000 in
set_option maxHeartbeats 8000000 in
theorem Fit_in (op a b c e : Int) (hop : 0 ≤ op ∧ op < 26) (he : -2147483648 ≤ e ∧ e ≤ 2147483647) (w : World) :
    Calls Tryz.prog 40 #[.agg #[.int .i64 op, .int .i64 a, .int .i64 b, .int .i64 c, .int .i32 e]] w fun e_ w' => e_ = .returned (.bool (fitP op a b c e)) ∧ Below w.heap.size w w' := by
  have hparts := fun n W => (callsIn_wide (n := n)).2 (parts_calls #[.int .i64 op, .int .i64 a, .int .i64 b, .int .i64 c, .int .i32 e] W)
  have hknown := fun n W => (callsIn_wide (n := n)).2 (inst_known.calls op true W (by unfold inst_known.f; rw [if_pos hop.1, decide_eq_true hop.2]))
  refine (callsIn_wide (n := 3)).1 ?_
  refine callsIn_of_wp_marks Tryz.func40 rfl trivial ?_ rfl
  simp only [Tryz.ntmps40, List.size_toArray, List.length_cons, List.length_nil, Nat.reduceAdd, Nat.reduceSub, Array.replicate_succ, Array.replicate_zero, List.push_toArray, List.append_toArray, List.nil_append, List.cons_append]
  clear hop
  gi_wp2_with (first | (refine ⟨trivial, ?_⟩; gi_at_call 57; refine (hknown _ _).mono ?_; rintro e_ w2 ⟨rfl, ⟨nd, rfl⟩⟩) | (refine ⟨trivial, ?_⟩; gi_at_call 53; refine (hparts _ _).mono ?_; rintro e_ w3 ⟨rfl, rfl⟩))
  obtain ⟨W3, hW3⟩ : ∃ W3, W3 = (((w.alloc (.cells #[.int .i64 op, .int .i64 a, .int .i64 b, .int .i64 c, .int .i32 e] 38)).alloc (.cells #[.bool false] 4)).drewN nd).alloc (.cells #[.int .i64 op, .int .i64 a, .int .i64 b, .int .i64 c, .int .i32 e] 38) := ⟨_, rfl⟩
  rw [← hW3]
  have hsz : W3.heap.size = w.heap.size + 3 := by rw [hW3]; simp
  have hB : Below w.heap.size w W3 := by rw [hW3]; exact below_alloc (pw_below_drewN (below_alloc (below_alloc (Below.refl _ w) _) _) _) _
  have hb1 : Boxed W3 (w.heap.size + 1) 4 (.bool false) := by rw [hW3]; exact blk_alloc (blk_drewN (blk_new1 _ _ _ (by simp)) _) _
  have hbB : W3.heap[w.heap.size + 1 + 1]? = some (.cells #[.int .i64 op, .int .i64 a, .int .i64 b, .int .i64 c, .int .i32 e] 38 (0, 0)) := by rw [hW3]; exact blk_new1 _ _ _ (by simp)
  have hseq := parts_stops 2 (by decide) (w.heap.size + 1 + 1) (w.heap.size + 1) w.heap.size op a b c e he W3 hbB (by omega) (by omega) (by omega)
  clear hW3 hparts hknown hbB
  refine wpIn_rangeFunc_ownH rfl (by decide) (gf := 68) (lb := #[.pointer (some ⟨w.heap.size + 1 + 1, 0, none⟩)]) rfl trivial (enters_of Tryz.func68 (by kernel_rfl) rfl) hseq (fun h k => KeepC.trans h k) (KeepC.putObj (by omega)) (Below.refl _ _) (fun _ => rfl)
    (fun pre W => ((∀ i ∈ pre, bad op a b c e i = false) ∧ Boxed W (w.heap.size + 1) 4 (.bool false) ∧ w.heap.size + 3 ≤ W.heap.size) ∧ Below w.heap.size w W)
    (fun cd pre W => (cd = .ret ∧ (∃ (q : List Nat) (z : Nat), pre = q ++ [z] ∧ bad op a b c e z = true) ∧ Boxed W (w.heap.size + 1) 4 (.bool false)) ∧ Below w.heap.size w W)
    (OwnFrom.and (Own.from (fun s X Y row hs hg hr => ⟨hs.1, boxed_own (β := Unit) _ _ (fun _ => _) () X Y row hs.2.1 hg hr, Nat.le_trans hs.2.2 hg.size⟩) _) (ownFrom_below (Nat.le_refl _) (by omega)))
    (fun cd => OwnFrom.and (Own.from (fun s X Y row hs hg hr => ⟨hs.1, hs.2.1, boxed_own (β := Unit) _ _ (fun _ => _) () X Y row hs.2.2 hg hr⟩) _) (ownFrom_below (Nat.le_refl _) (by omega)))
    ⟨⟨by simp, hb1, by omega⟩, hB⟩
    (fun x a' W => ∃ q : Nat, a' = { tmps := #[.agg #[.int .i64 op, .int .i64 a, .int .i64 b, .int .i64 c, .int .i32 e], .pointer (some ⟨w.heap.size, 0, none⟩), .pointer (some ⟨w.heap.size + 1, 0, none⟩), .pointer (some ⟨q, 0, none⟩), .pointer (some ⟨w.heap.size, 0, none⟩), .int .i64 op, .bool true, .bool false, .agg #[.int .i64 op, .int .i64 a, .int .i64 b, .int .i64 c, .int .i32 e], .func (.func 68) #[] #[.pointer (some ⟨w.heap.size + 1 + 1, 0, none⟩)], .agg #[.int .u8 (letter x), .int .i64 (num a b c e x), .bool (uses op x)], undef, undef, undef, undef, undef, undef, undef, undef, undef, undef, undef, undef, undef, undef, undef, undef, undef, undef, undef, undef, undef, undef, undef], defers := [] } ∧ W.heap[q]? = some (.cells #[.int .u8 (letter x), .int .i64 (num a b c e x), .bool (uses op x)] 103 (0, 0)) ∧ q ≠ w.heap.size + 1)
    (fun x a' => Own.from (fun s X Y row hs hg hr => (let ⟨q, h1, h2, h3⟩ := hs; ⟨q, h1, blk_own (β := Unit) q _ _ () X Y row h2 hg hr, h3⟩)) _) ?assign ?body ?done ?stop
  case assign =>
    intro l pre x W K hI hK
    obtain ⟨⟨hne, hv, hsW⟩, hBW⟩ := hI
    unfold partV
    gi_wp2
    exact hK _ _ (KeepsFrom.of_grownBy (World.grownBy_alloc W _ none) (fun j e => by cases e)) (KeepC.of_below (below_alloc (Below.refl _ _) _) (by omega)) ⟨⟨hne, hv.kept (World.grownBy_alloc W _ none) (by simp), by simp; omega⟩, below_alloc hBW _⟩ ⟨W.heap.size, rfl, blk_new W _, by omega⟩
  case body =>
    rintro lp pre x a' W hl hex ⟨⟨hne, hv, hsW⟩, hBW⟩ ⟨q, rfl, hq, hqn⟩ hlen
    have hq0 := blk_cell hq 0
    have hq1 := blk_cell hq 1
    have hq2 := blk_cell hq 2
    simp only [List.getElem?_toArray, List.getElem?_cons_zero, List.getElem?_cons_succ] at hq0 hq1 hq2
    have hc := hv.cell
    have hf := hv.frozen
    have hbad : bad op a b c e x = ((!(uses op x) && (num a b c e x != 0)) || (letter x != 105 && (decide (num a b c e x < 0) || decide (num a b c e x ≥ 16)))) := rfl
    clear hq hlen hex
    generalize uses op x = u at *
    generalize num a b c e x = nn at *
    generalize letter x = L at *
    have HBAD := Lib.hid hbad
    clear hbad
    have HV := Lib.hid hv
    have HBW := Lib.hid hBW
    have HNE := Lib.hid hne
    clear hne hv hBW
    cases u <;> by_cases h0 : nn = 0 <;> by_cases hL : L = 105 <;> by_cases h1 : nn < 0 <;> by_cases h2 : nn ≥ 16
    all_goals first | (exfalso; omega) | skip
    all_goals
      gi_wp2
      first
      | (refine ⟨KeepsFrom.refl _ _, KeepC.refl _ _ _, ⟨fun i hi => ?_, HV.out, hsW⟩, HBW.out⟩; rcases List.mem_append.1 hi with hi | hi; exact HNE.out i hi; simp only [List.mem_singleton] at hi; subst hi; rw [HBAD.out]; simp [h0, hL, h1, h2]; done)
      | (refine ⟨(KeepsOthers.setCell _ _ _).from _, ⟨rfl, ⟨pre, x, rfl, ?_⟩, HV.out.set _⟩, HBW.out.setCell (p := ⟨w.heap.size + 1, 0, none⟩) (by simp) _⟩; rw [HBAD.out]; simp [h0, hL, h1, h2]; done)
      | (refine ⟨(KeepsOthers.setCell _ _ _).from _, ⟨rfl, ⟨pre, x, rfl, ?_⟩, HV.out.set _⟩, HBW.out.setCell (p := ⟨w.heap.size + 1, 0, none⟩) (by simp) _⟩; rw [HBAD.out]; simp [h0, hL, h1, h2]; omega)
  case done =>
    rintro D ys W hD hS ⟨⟨hne, hv, hsW⟩, hBW⟩ hK
    have hS' : ys = List.range 4 := hS
    subst hS'
    have hfin : fitP op a b c e = true := by
      unfold fitP
      rw [List.all_eq_true]
      intro k hk
      rw [hne k hk]
      rfl
    have hc := hv.cell
    have hf := hv.frozen
    gi_wp2
    have hw := hv.set (.bool true)
    have hK' := (KeepsOthers.setCell W ⟨w.heap.size + 1, 0, none⟩ (.bool true)).same D _ hK rfl
    have hB' := hBW.setCell (p := ⟨w.heap.size + 1, 0, none⟩) (by simp) (.bool true)
    refine ⟨by simp, .inl ⟨_, _, rfl, run_takeDeferred hK', ?_⟩⟩
    have hc5 := cell_kept hw.cell (grownBy_putObj' _ D (.deferred none)) (fun r e => by cases e; exact ⟨_, hK', rfl⟩)
    refine ⟨.bool true, ?_, by first | rfl | rw [hfin], hB'.trans (belowK_b (w := w) (Nat.le_refl _) _ D _ _ (by omega) hK' rfl rfl)⟩
    simp [results, Tryz.f40, go_sem, hc5]
  case stop =>
    rintro D cd pre W hD hpre ⟨⟨rfl, ⟨q, z, hqz, hbz⟩, hv⟩, hBW⟩ hK
    have hpre' : pre <+: List.range 4 := hpre
    obtain ⟨t, ht⟩ := hpre'
    have hfin : fitP op a b c e = false := by
      unfold fitP
      rw [List.all_eq_false]
      exact ⟨z, by rw [← ht, hqz]; simp, by rw [hbz]; decide⟩
    clear hpre
    gi_wp2
    refine ⟨by simp, .inl ⟨_, _, rfl, run_takeDeferred hK, ?_⟩⟩
    have hc5 := cell_kept hv.cell (grownBy_putObj' _ D (.deferred none)) (fun r e => by cases e; exact ⟨_, hK, rfl⟩)
    refine ⟨.bool false, ?_, by first | rfl | rw [hfin], hBW.trans (belowK_b (w := w) (Nat.le_refl _) W D _ _ (by omega) hK rfl rfl)⟩
    simp [results, Tryz.f40, go_sem, hc5]
end Go.Proofs.YtbelnkdbghggmaaGreatDoor.X
namespace Go.Proofs.YtbelnkdbghggmaaGreatDoor.X
open Go.RowKit Go.Proofs.YtbelnkdbghggmaaGreatDoorW.PrintWords Go.Proofs.YtbelnkdbghggmaaGreatDoorW.PrintLast
set_option linter.unusedVariables false
set_option linter.unusedSimpArgs false
set_option maxRecDepth 100000 in
set_option maxHeartbeats 8000000 in
theorem Fit_out (op a b c e : Int) (hop : ¬ (0 ≤ op ∧ op < 26)) (w : World) :
    Calls Tryz.prog 40 #[.agg #[.int .i64 op, .int .i64 a, .int .i64 b, .int .i64 c, .int .i32 e]] w fun e_ w' => e_ = .returned (.bool false) ∧ Below w.heap.size w w' := by
  have HK := Aside0.mk (show inst_known.f op = some false by
    unfold inst_known.f
    by_cases h0 : op ≥ 0
    · rw [if_pos h0, decide_eq_false (by omega)]
    · rw [if_neg h0])
  have HB := Aside0.mk (below_alloc (below_alloc (Below.refl w.heap.size w) (.cells #[.int .i64 op, .int .i64 a, .int .i64 b, .int .i64 c, .int .i32 e] 38)) (.cells #[.bool false] 4))
  clear hop
  go_enter Tryz.func40, Tryz.ntmps40
  go_wp2_with (go_at_call 57; (with_reducible refine (inst_known.calls op false _ HK.out).mono ?_); rintro e_ w1 ⟨rfl, ⟨nd, rfl⟩⟩)
  have hbx := blk_drewN (blk_new (w.alloc (.cells #[.int .i64 op, .int .i64 a, .int .i64 b, .int .i64 c, .int .i32 e] 38)) (.cells #[.bool false] 4)) nd
  rw [World.size_alloc] at hbx
  have hbx2 := blk_put hbx 0 (.bool false) rfl
  have hc5 := blk_cell hbx2 0
  simp at hc5
  refine bodyPost_ret (v := .bool false) (by simp [results, Tryz.f40, go_sem, hc5]) rfl ?_
  exact ⟨rfl, (pw_below_drewN HB.out nd).setCell (p := ⟨w.heap.size + 1, 0, none⟩) (by simp) _⟩
/-- Whether an instruction can be. -/
def fitB (op a b c e : Int) : Bool := decide (0 ≤ op ∧ op < 26) && fitP op a b c e
def inst_Fit.f (a0_0 a0_1 a0_2 a0_3 a0_4 : Int) : Option Bool := if -2147483648 ≤ a0_4 ∧ a0_4 ≤ 2147483647 then some (fitB a0_0 a0_1 a0_2 a0_3 a0_4) else none
theorem inst_Fit.calls (a0_0 : Int) (a0_1 : Int) (a0_2 : Int) (a0_3 : Int) (a0_4 : Int) (r : Bool) (w : World) (h : inst_Fit.f a0_0 a0_1 a0_2 a0_3 a0_4 = some r) :
    Calls Tryz.prog 40 #[.agg #[.int .i64 a0_0, .int .i64 a0_1, .int .i64 a0_2, .int .i64 a0_3, .int .i32 a0_4]] w fun e w' => e = .returned (.bool r) ∧ Below w.heap.size w w' := by
  unfold inst_Fit.f at h
  split at h
  · rename_i he
    obtain rfl := Option.some.inj h
    unfold fitB
    by_cases hop : 0 ≤ a0_0 ∧ a0_0 < 26
    · rw [decide_eq_true hop, Bool.true_and]
      exact Fit_in _ _ _ _ _ hop he w
    · rw [decide_eq_false hop, Bool.false_and]
      exact Fit_out _ _ _ _ _ hop w
  · cases h
end Go.Proofs.YtbelnkdbghggmaaGreatDoor.X
namespace Go.Proofs.YtbelnkdbghggmaaGreatDoor.X
open Go.RowKit Go.Proofs.YtbelnkdbghggmaaGreatDoorW.PrintWords Go.Proofs.YtbelnkdbghggmaaGreatDoorW.PrintLast

set_option linter.unusedVariables false
set_option linter.unusedSimpArgs false

-- NOT PRINTED: function 53 (inst_parts)

/-! ### inst_Encode: function 50 -/
def inst_Encode.f (a0_0 : Int) (a0_1 : Int) (a0_2 : Int) (a0_3 : Int) (a0_4 : Int) : Option (Int) := (inst_Fit.f a0_0 a0_1 a0_2 a0_3 a0_4).bind fun t102 => (if t102 = true then (some (Go.bits .or .u64 (Go.bits .or .u64 (IntKind.u64.wrap (a0_0)) (IntKind.u64.wrap ((Go.bits .or .u64 (Go.bits .or .u64 (IntKind.u64.wrap (a0_1)) (IntKind.u64.wrap ((IntKind.u64.wrap (a0_2)) * 16))) (IntKind.u64.wrap ((IntKind.u64.wrap (a0_3)) * 256))) * 256))) (((a0_4) % 4294967296) * 4294967296))) else (some 0))
set_option maxHeartbeats 8000000 in
set_option maxRecDepth 100000 in
theorem inst_Encode.calls (a0_0 : Int) (a0_1 : Int) (a0_2 : Int) (a0_3 : Int) (a0_4 : Int) (r : Int) (w : World) (h : inst_Encode.f a0_0 a0_1 a0_2 a0_3 a0_4 = some r) :
    Calls Tryz.prog 50 #[.agg #[.int .i64 a0_0, .int .i64 a0_1, .int .i64 a0_2, .int .i64 a0_3, .int .i32 a0_4]] w fun e w' => e = .returned (.int .u64 r) ∧ Below w.heap.size w w' := by
  have hu23 := Tryz.underlying38
  have HB := Aside0.mk (Below.refl w.heap.size w)
  have H : ((inst_Fit.f a0_0 a0_1 a0_2 a0_3 a0_4).bind fun t102 => (if t102 = true then (some (Go.bits .or .u64 (Go.bits .or .u64 (IntKind.u64.wrap (a0_0)) (IntKind.u64.wrap ((Go.bits .or .u64 (Go.bits .or .u64 (IntKind.u64.wrap (a0_1)) (IntKind.u64.wrap ((IntKind.u64.wrap (a0_2)) * 16))) (IntKind.u64.wrap ((IntKind.u64.wrap (a0_3)) * 256))) * 256))) (((a0_4) % 4294967296) * 4294967296))) else (some 0))) = some r := h
  clear h
  replace H := Option.bind_eq_some_iff.mp H
  obtain ⟨t102, A20, H⟩ := H
  replace H : (if t102 = true then (some (Go.bits .or .u64 (Go.bits .or .u64 (IntKind.u64.wrap (a0_0)) (IntKind.u64.wrap ((Go.bits .or .u64 (Go.bits .or .u64 (IntKind.u64.wrap (a0_1)) (IntKind.u64.wrap ((IntKind.u64.wrap (a0_2)) * 16))) (IntKind.u64.wrap ((IntKind.u64.wrap (a0_3)) * 256))) * 256))) (((a0_4) % 4294967296) * 4294967296))) else (some 0)) = some r := H
  have A2 := Aside0.mk A20
  clear A20
  by_cases c3 : t102 = true
  · subst c3
    have H1 : (some (Go.bits .or .u64 (Go.bits .or .u64 (IntKind.u64.wrap (a0_0)) (IntKind.u64.wrap ((Go.bits .or .u64 (Go.bits .or .u64 (IntKind.u64.wrap (a0_1)) (IntKind.u64.wrap ((IntKind.u64.wrap (a0_2)) * 16))) (IntKind.u64.wrap ((IntKind.u64.wrap (a0_3)) * 256))) * 256))) (((a0_4) % 4294967296) * 4294967296))) = some r := by rw [if_pos rfl] at H; exact H
    clear H
    have H := H1
    clear H1
    obtain rfl := Option.some.inj H
    go_enter Tryz.func50, Tryz.ntmps50
    go_wp2_with (first | ((with_reducible refine gate_dst (N := 1) rfl ?_); refine box_event ?hg (N := 1) ?hd (cs := #[.int .i64 a0_0, .int .i64 a0_1, .int .i64 a0_2, .int .i64 a0_3, .int .i32 a0_4]) (t := 38) ?hr ?_; (case hd => rfl); (case hg => rfl); (case hr => first | (go_simp; done) | (go_simp; rfl)); intro gb101 hg w4 hbox hb; have n0_ := Aside0.mk (below_step (by repeat (first | (with_reducible first | exact HB.out | apply below_alloc | apply pw_below_drewN | apply below_drew1) | exact HB.out)) hb); have n1_ := Aside0.mk (hbox); have n2_ := Aside0.mk ((by rw [hg]; exact (below_size (by repeat (first | (with_reducible first | exact HB.out | apply below_alloc | apply pw_below_drewN | apply below_drew1) | exact HB.out))) : w.heap.size ≤ gb101)); have n3_ := Aside0.mk ((by rw [hg]; exact (below_size (by repeat (first | (with_reducible first | exact HB.out | apply below_alloc | apply pw_below_drewN | apply below_drew1) | exact HB.out))) : w.heap.size ≤ gb101)); clear HB; have HB := n0_; have BK101 := n1_; have GW101 := n2_; have GE101 := n3_; clear n0_ n1_ n2_ n3_; clear hb hbox hg; have hcz5_0 : w4.cell? ⟨gb101, 0, none⟩ = some (.int .i64 a0_0) := (blk_cell BK101.out 0).trans rfl; have hcz5_1 : w4.cell? ⟨gb101, 1, none⟩ = some (.int .i64 a0_1) := (blk_cell BK101.out 1).trans rfl; have hcz5_2 : w4.cell? ⟨gb101, 2, none⟩ = some (.int .i64 a0_2) := (blk_cell BK101.out 2).trans rfl; have hcz5_3 : w4.cell? ⟨gb101, 3, none⟩ = some (.int .i64 a0_3) := (blk_cell BK101.out 3).trans rfl; have hcz5_4 : w4.cell? ⟨gb101, 4, none⟩ = some (.int .i32 a0_4) := (blk_cell BK101.out 4).trans rfl; have hfz5_0 := blk_frozen BK101.out 0; have hfz5_1 := blk_frozen BK101.out 1; have hfz5_2 := blk_frozen BK101.out 2; have hfz5_3 := blk_frozen BK101.out 3; have hfz5_4 := blk_frozen BK101.out 4) | ((with_reducible refine gate_callee (f := 40) rfl ?_); refine goesL_ (some 5) rfl rfl Tryz.func40 (by kernel_rfl) rfl #[.agg #[.int .i64 a0_0, .int .i64 a0_1, .int .i64 a0_2, .int .i64 a0_3, .int .i32 a0_4]] rfl (by (try simp only [List.map_toArray, List.map_cons, List.map_nil]); first | done | rfl | (simp only [List.length_drop, List.length_take]; rfl)) ?_; (with_reducible refine (inst_Fit.calls a0_0 a0_1 a0_2 a0_3 a0_4 true _ A2.out).mono ?_); rintro e w6 ⟨rfl, hb⟩; refine ⟨_, rfl, ?_⟩; have n0_ := Aside0.mk (blk_below (g := gb101) (o := .cells #[.int .i64 a0_0, .int .i64 a0_1, .int .i64 a0_2, .int .i64 a0_3, .int .i32 a0_4] 38 (0, 0)) (by (with_reducible repeat (first | refine blk_drewN ?_ _ | refine blk_drew ?_ | refine blk_alloc ?_ _)); exact BK101.out) hb); have n1_ := Aside0.mk (below_step (by repeat (first | (with_reducible first | exact HB.out | apply below_alloc | apply pw_below_drewN | apply below_drew1 | refine below_set ?_ GE101.out) | exact HB.out)) hb); clear BK101; clear HB; have BK101 := n0_; have HB := n1_; clear n0_ n1_; (try clear hb); (try clear hb2); (try clear hk); (try clear hi); have hcz7_0 : w6.cell? ⟨gb101, 0, none⟩ = some (.int .i64 a0_0) := (blk_cell BK101.out 0).trans rfl; have hcz7_1 : w6.cell? ⟨gb101, 1, none⟩ = some (.int .i64 a0_1) := (blk_cell BK101.out 1).trans rfl; have hcz7_2 : w6.cell? ⟨gb101, 2, none⟩ = some (.int .i64 a0_2) := (blk_cell BK101.out 2).trans rfl; have hcz7_3 : w6.cell? ⟨gb101, 3, none⟩ = some (.int .i64 a0_3) := (blk_cell BK101.out 3).trans rfl; have hcz7_4 : w6.cell? ⟨gb101, 4, none⟩ = some (.int .i32 a0_4) := (blk_cell BK101.out 4).trans rfl; have hfz7_0 := blk_frozen BK101.out 0; have hfz7_1 := blk_frozen BK101.out 1; have hfz7_2 := blk_frozen BK101.out 2; have hfz7_3 := blk_frozen BK101.out 3; have hfz7_4 := blk_frozen BK101.out 4))
    go_ret
    exact ⟨by first | rfl | (simp [errW_none, errW_some] <;> rfl) | (simp [*, errW_none, errW_some] <;> rfl), by repeat (first | (with_reducible first | exact HB.out | apply below_alloc | apply pw_below_drewN | apply below_drew1 | refine below_set ?_ GE101.out) | exact HB.out)⟩
  · replace c3 := Bool.eq_false_iff.mpr c3
    subst c3
    have H1 : (some 0) = some r := by rw [if_neg (show ¬ (false = true) by decide)] at H; exact H
    clear H
    have H := H1
    clear H1
    obtain rfl := Option.some.inj H
    go_enter Tryz.func50, Tryz.ntmps50
    go_wp2_with (first | ((with_reducible refine gate_dst (N := 1) rfl ?_); refine box_event ?hg (N := 1) ?hd (cs := #[.int .i64 a0_0, .int .i64 a0_1, .int .i64 a0_2, .int .i64 a0_3, .int .i32 a0_4]) (t := 38) ?hr ?_; (case hd => rfl); (case hg => rfl); (case hr => first | (go_simp; done) | (go_simp; rfl)); intro gb101 hg w8 hbox hb; have n0_ := Aside0.mk (below_step (by repeat (first | (with_reducible first | exact HB.out | apply below_alloc | apply pw_below_drewN | apply below_drew1) | exact HB.out)) hb); have n1_ := Aside0.mk (hbox); have n2_ := Aside0.mk ((by rw [hg]; exact (below_size (by repeat (first | (with_reducible first | exact HB.out | apply below_alloc | apply pw_below_drewN | apply below_drew1) | exact HB.out))) : w.heap.size ≤ gb101)); have n3_ := Aside0.mk ((by rw [hg]; exact (below_size (by repeat (first | (with_reducible first | exact HB.out | apply below_alloc | apply pw_below_drewN | apply below_drew1) | exact HB.out))) : w.heap.size ≤ gb101)); clear HB; have HB := n0_; have BK101 := n1_; have GW101 := n2_; have GE101 := n3_; clear n0_ n1_ n2_ n3_; clear hb hbox hg; have hcz9_0 : w8.cell? ⟨gb101, 0, none⟩ = some (.int .i64 a0_0) := (blk_cell BK101.out 0).trans rfl; have hcz9_1 : w8.cell? ⟨gb101, 1, none⟩ = some (.int .i64 a0_1) := (blk_cell BK101.out 1).trans rfl; have hcz9_2 : w8.cell? ⟨gb101, 2, none⟩ = some (.int .i64 a0_2) := (blk_cell BK101.out 2).trans rfl; have hcz9_3 : w8.cell? ⟨gb101, 3, none⟩ = some (.int .i64 a0_3) := (blk_cell BK101.out 3).trans rfl; have hcz9_4 : w8.cell? ⟨gb101, 4, none⟩ = some (.int .i32 a0_4) := (blk_cell BK101.out 4).trans rfl; have hfz9_0 := blk_frozen BK101.out 0; have hfz9_1 := blk_frozen BK101.out 1; have hfz9_2 := blk_frozen BK101.out 2; have hfz9_3 := blk_frozen BK101.out 3; have hfz9_4 := blk_frozen BK101.out 4) | ((with_reducible refine gate_callee (f := 40) rfl ?_); refine goesL_ (some 5) rfl rfl Tryz.func40 (by kernel_rfl) rfl #[.agg #[.int .i64 a0_0, .int .i64 a0_1, .int .i64 a0_2, .int .i64 a0_3, .int .i32 a0_4]] rfl (by (try simp only [List.map_toArray, List.map_cons, List.map_nil]); first | done | rfl | (simp only [List.length_drop, List.length_take]; rfl)) ?_; (with_reducible refine (inst_Fit.calls a0_0 a0_1 a0_2 a0_3 a0_4 false _ A2.out).mono ?_); rintro e w10 ⟨rfl, hb⟩; refine ⟨_, rfl, ?_⟩; have n0_ := Aside0.mk (blk_below (g := gb101) (o := .cells #[.int .i64 a0_0, .int .i64 a0_1, .int .i64 a0_2, .int .i64 a0_3, .int .i32 a0_4] 38 (0, 0)) (by (with_reducible repeat (first | refine blk_drewN ?_ _ | refine blk_drew ?_ | refine blk_alloc ?_ _)); exact BK101.out) hb); have n1_ := Aside0.mk (below_step (by repeat (first | (with_reducible first | exact HB.out | apply below_alloc | apply pw_below_drewN | apply below_drew1 | refine below_set ?_ GE101.out) | exact HB.out)) hb); clear BK101; clear HB; have BK101 := n0_; have HB := n1_; clear n0_ n1_; (try clear hb); (try clear hb2); (try clear hk); (try clear hi)))
    go_ret
    exact ⟨by first | rfl | (simp [errW_none, errW_some] <;> rfl) | (simp [*, errW_none, errW_some] <;> rfl), by repeat (first | (with_reducible first | exact HB.out | apply below_alloc | apply pw_below_drewN | apply below_drew1 | refine below_set ?_ GE101.out) | exact HB.out)⟩

-- NOT PRINTED: function 24 (inst_Decode)
end Go.Proofs.YtbelnkdbghggmaaGreatDoor.X
namespace Go.Proofs.YtbelnkdbghggmaaGreatDoor.X
open Go.RowKit Go.Proofs.YtbelnkdbghggmaaGreatDoorW.PrintWords Go.Proofs.YtbelnkdbghggmaaGreatDoorW.PrintLast
set_option linter.unusedVariables false
set_option linter.unusedSimpArgs false
set_option maxRecDepth 100000 in
set_option maxHeartbeats 8000000 in
theorem reg8 (B : Nat) (x : Int) (w : World) (hx : w.cell? ⟨B, 0, none⟩ = some (.int .u64 x)) :
    Calls Tryz.prog 51 #[.int .i64 8, .pointer (some ⟨B, 0, none⟩)] w fun e w' => e = .returned (.int .i64 (wrap64 (Go.bits .and .u64 (x / 256) 15))) ∧ w' = w := by
  go_enter Tryz.func51, Tryz.ntmps51
  go_wp2
  go_ret
  exact ⟨rfl, rfl⟩
set_option maxRecDepth 100000 in
set_option maxHeartbeats 8000000 in
theorem reg12 (B : Nat) (x : Int) (w : World) (hx : w.cell? ⟨B, 0, none⟩ = some (.int .u64 x)) :
    Calls Tryz.prog 51 #[.int .i64 12, .pointer (some ⟨B, 0, none⟩)] w fun e w' => e = .returned (.int .i64 (wrap64 (Go.bits .and .u64 (x / 4096) 15))) ∧ w' = w := by
  go_enter Tryz.func51, Tryz.ntmps51
  go_wp2
  go_ret
  exact ⟨rfl, rfl⟩
set_option maxRecDepth 100000 in
set_option maxHeartbeats 8000000 in
theorem reg16 (B : Nat) (x : Int) (w : World) (hx : w.cell? ⟨B, 0, none⟩ = some (.int .u64 x)) :
    Calls Tryz.prog 51 #[.int .i64 16, .pointer (some ⟨B, 0, none⟩)] w fun e w' => e = .returned (.int .i64 (wrap64 (Go.bits .and .u64 (x / 65536) 15))) ∧ w' = w := by
  go_enter Tryz.func51, Tryz.ntmps51
  go_wp2
  go_ret
  exact ⟨rfl, rfl⟩
/-- The instruction that a word's parts are. -/
def decOp (x : Int) : Int := IntKind.i64.wrap (Go.bits .and .u64 x 255)
def decA (x : Int) : Int := wrap64 (Go.bits .and .u64 (x / 256) 15)
def decB (x : Int) : Int := wrap64 (Go.bits .and .u64 (x / 4096) 15)
def decC (x : Int) : Int := wrap64 (Go.bits .and .u64 (x / 65536) 15)
set_option maxRecDepth 100000 in
set_option maxHeartbeats 8000000 in
theorem Decode_walk (x : Int) (im : Int) (t : Bool) (ec : Int) (w : World) (him : IntKind.i32.wrap (x / 4294967296) = im) (hf : inst_Fit.f (decOp x) (decA x) (decB x) (decC x) im = some t) (hec : t = true → inst_Encode.f (decOp x) (decA x) (decB x) (decC x) im = some ec) :
    Calls Tryz.prog 24 #[.int .u64 x] w fun e w' => e = .returned (.tuple #[if t = true ∧ ec = x then .agg #[.int .i64 (decOp x), .int .i64 (decA x), .int .i64 (decB x), .int .i64 (decC x), .int .i32 im] else .agg #[.int .i64 0, .int .i64 0, .int .i64 0, .int .i64 0, .int .i32 0], .bool (decide (t = true ∧ ec = x))]) ∧ Below w.heap.size w w' := by
  generalize hrv : Ending.returned (Value.tuple #[if t = true ∧ ec = x then Value.agg #[.int .i64 (decOp x), .int .i64 (decA x), .int .i64 (decB x), .int .i64 (decC x), .int .i32 im] else Value.agg #[.int .i64 0, .int .i64 0, .int .i64 0, .int .i64 0, .int .i32 0], Value.bool (decide (t = true ∧ ec = x))]) = rv
  have HRV := Aside0.mk hrv
  clear hrv
  have HF := Aside0.mk hf
  have HEC := Aside0.mk hec
  have HB := Aside0.mk (below_alloc (below_alloc (Below.refl w.heap.size w) (.cells #[.int .u64 x] 63)) (.cells #[.int .i64 0, .int .i64 0, .int .i64 0, .int .i64 0, .int .i32 0] 38))
  have hu23 := Tryz.underlying38
  clear hf hec
  go_enter Tryz.func24, Tryz.ntmps24
  go_upto_region 2 with fail
  go_cut [5] (fun s5 wx => s5 = .pointer (some ⟨w.heap.size + 2, 0, none⟩) ∧ Below w.heap.size w wx ∧ wx.heap[w.heap.size]? = some (.cells #[.int .u64 x] 63 (0, 0)) ∧ wx.heap[w.heap.size + 1]? = some (.cells #[.int .i64 0, .int .i64 0, .int .i64 0, .int .i64 0, .int .i32 0] 38 (0, 0)) ∧ wx.heap[w.heap.size + 2]? = some (.cells #[.int .i64 (decOp x), .int .i64 (decA x), .int .i64 (decB x), .int .i64 (decC x), .int .i32 im] 38 (0, 0)))
  case first =>
    go_region_held3 (fun w' => w'.cell? ⟨w.heap.size, 0, none⟩ = some (.int .u64 x)) (simp [go_sem, World.cell?_alloc_past])
      (first | (go_at_call 51; first | ((with_reducible refine (reg8 w.heap.size x _ ?s1).mono ?_); (case s1 => simp [*]; done); rintro e_ w1 ⟨rfl, rfl⟩) | ((with_reducible refine (reg12 w.heap.size x _ ?s1).mono ?_); (case s1 => simp [*]; done); rintro e_ w1 ⟨rfl, rfl⟩) | ((with_reducible refine (reg16 w.heap.size x _ ?s1).mono ?_); (case s1 => simp [*]; done); rintro e_ w1 ⟨rfl, rfl⟩)))
    all_goals
      go_wp2_with fail
      go_meet
      refine ⟨rfl, by first | exact below_drew1 (below_alloc HB.out _) | (apply below_drew1; apply below_alloc; exact HB.out), ?_, ?_, ?_⟩
      · refine blk_drew (blk_alloc (blk_alloc ?_ _) _); refine blk_new1 _ _ _ ?_; rfl
      · refine blk_drew (blk_alloc ?_ _); refine blk_new1 _ _ _ ?_; simp
      · refine blk_drew ?_; refine blk_new1 _ _ _ ?_; simp
  case rest =>
    obtain ⟨rfl, hBx, hx0, hz0, hi0⟩ := hcut
    have hx1 := blk_cell hx0 0
    have hi1 := blk_cell hi0 0
    have hi2 := blk_cell hi0 1
    have hi3 := blk_cell hi0 2
    have hi4 := blk_cell hi0 3
    have hi5 := blk_cell hi0 4
    simp only [List.getElem?_toArray, List.getElem?_cons_zero, List.getElem?_cons_succ] at hx1 hi1 hi2 hi3 hi4 hi5
    clear HB
    cases t
    · go_wp2
      go_region_with (first | (go_at_call 40; (with_reducible refine (inst_Fit.calls _ _ _ _ _ false _ HF.out).mono ?_); rintro e_ w1 ⟨rfl, hb⟩))
      all_goals
        have hz0b := blk_below (by repeat (first | exact hz0 | apply blk_drew)) hb
        have hc0 := (blk_cell hz0b 0).trans rfl
        have hc1 := (blk_cell hz0b 1).trans rfl
        have hc2 := (blk_cell hz0b 2).trans rfl
        have hc3 := (blk_cell hz0b 3).trans rfl
        have hc4 := (blk_cell hz0b 4).trans rfl
        have hf0 := blk_frozen hz0b 0
        have hf1 := blk_frozen hz0b 1
        have hf2 := blk_frozen hz0b 2
        have hf3 := blk_frozen hz0b 3
        have hf4 := blk_frozen hz0b 4
        go_wp2
        have hsz := hBx.size
        have hz0d := blk_put (blk_put (blk_put (blk_put (blk_put (hz0b) 0 (.int .i64 0) rfl) 1 (.int .i64 0) rfl) 2 (.int .i64 0) rfl) 3 (.int .i64 0) rfl) 4 (.int .i32 0) rfl
        have hd0 := (blk_cell hz0d 0).trans rfl
        have hd1 := (blk_cell hz0d 1).trans rfl
        have hd2 := (blk_cell hz0d 2).trans rfl
        have hd3 := (blk_cell hz0d 3).trans rfl
        have hd4 := (blk_cell hz0d 4).trans rfl
        simp at hd0 hd1 hd2 hd3 hd4
        refine bodyPost_ret (v := .tuple #[.agg #[.int .i64 0, .int .i64 0, .int .i64 0, .int .i64 0, .int .i32 0], .bool false]) (by simp [results, Tryz.f24, go_sem, hd0, hd1, hd2, hd3, hd4]) rfl ?_
        refine ⟨HRV.out.symm.trans (by first | rfl | simp | (simp [hz0]; done)) |>.symm, ?_⟩
        repeat (refine below_set ?_ (by simp))
        exact below_step (by repeat (first | exact hBx | apply below_drew1)) hb
    · have HEC2 := Aside0.mk (HEC.out rfl)
      clear HEC
      go_wp2
      by_cases hecx : ec = x
      · subst hecx
        go_region_with (first | (go_at_call 40; (with_reducible refine (inst_Fit.calls _ _ _ _ _ true _ HF.out).mono ?_); rintro e_ w1 ⟨rfl, hb⟩; have hx0b := blk_below (by repeat (first | exact hx0 | apply blk_drew)) hb; have hz0a := blk_below (by repeat (first | exact hz0 | apply blk_drew)) hb; have hi0b := blk_below (by repeat (first | exact hi0 | apply blk_drew)) hb; have hx1b := blk_cell hx0b 0; have hi1b := blk_cell hi0b 0; have hi2b := blk_cell hi0b 1; have hi3b := blk_cell hi0b 2; have hi4b := blk_cell hi0b 3; have hi5b := blk_cell hi0b 4; simp only [List.getElem?_toArray, List.getElem?_cons_zero, List.getElem?_cons_succ] at hx1b hi1b hi2b hi3b hi4b hi5b) | (go_at_call 50; (with_reducible refine (inst_Encode.calls _ _ _ _ _ _ _ HEC2.out).mono ?_); rintro e_ w2 ⟨rfl, hb2⟩; have hx0c := blk_below (by repeat (first | exact hx0b | apply blk_drew)) hb2; have hi0c := blk_below (by repeat (first | exact hi0b | apply blk_drew)) hb2; have hz0b := blk_below (by repeat (first | exact hz0a | apply blk_drew)) hb2; have hx1c := blk_cell hx0c 0; have hi1c := blk_cell hi0c 0; have hi2c := blk_cell hi0c 1; have hi3c := blk_cell hi0c 2; have hi4c := blk_cell hi0c 3; have hi5c := blk_cell hi0c 4; simp only [List.getElem?_toArray, List.getElem?_cons_zero, List.getElem?_cons_succ] at hx1c hi1c hi2c hi3c hi4c hi5c))
        all_goals
          have hc0 := (blk_cell hz0b 0).trans rfl
          have hc1 := (blk_cell hz0b 1).trans rfl
          have hc2 := (blk_cell hz0b 2).trans rfl
          have hc3 := (blk_cell hz0b 3).trans rfl
          have hc4 := (blk_cell hz0b 4).trans rfl
          have hf0 := blk_frozen hz0b 0
          have hf1 := blk_frozen hz0b 1
          have hf2 := blk_frozen hz0b 2
          have hf3 := blk_frozen hz0b 3
          have hf4 := blk_frozen hz0b 4
          go_wp2
          have hsz := hBx.size
          have hz0d := blk_put (blk_put (blk_put (blk_put (blk_put (hz0b) 0 (.int .i64 (decOp ec)) rfl) 1 (.int .i64 (decA ec)) rfl) 2 (.int .i64 (decB ec)) rfl) 3 (.int .i64 (decC ec)) rfl) 4 (.int .i32 im) rfl
          have hd0 := (blk_cell hz0d 0).trans rfl
          have hd1 := (blk_cell hz0d 1).trans rfl
          have hd2 := (blk_cell hz0d 2).trans rfl
          have hd3 := (blk_cell hz0d 3).trans rfl
          have hd4 := (blk_cell hz0d 4).trans rfl
          simp at hd0 hd1 hd2 hd3 hd4
          refine bodyPost_ret (v := .tuple #[.agg #[.int .i64 (decOp ec), .int .i64 (decA ec), .int .i64 (decB ec), .int .i64 (decC ec), .int .i32 im], .bool true]) (by simp [results, Tryz.f24, go_sem, hd0, hd1, hd2, hd3, hd4]) rfl ?_
          refine ⟨by rw [← HRV.out]; simp, ?_⟩
          repeat (refine below_set ?_ (by simp))
          exact below_step (by repeat (first | exact below_step (by repeat (first | exact hBx | apply below_drew1)) hb | apply below_drew1)) hb2
      · have hdne : decide (ec = x) = false := decide_eq_false hecx
        go_region_with (first | (go_at_call 40; (with_reducible refine (inst_Fit.calls _ _ _ _ _ true _ HF.out).mono ?_); rintro e_ w1 ⟨rfl, hb⟩; have hx0b := blk_below (by repeat (first | exact hx0 | apply blk_drew)) hb; have hz0a := blk_below (by repeat (first | exact hz0 | apply blk_drew)) hb; have hi0b := blk_below (by repeat (first | exact hi0 | apply blk_drew)) hb; have hx1b := blk_cell hx0b 0; have hi1b := blk_cell hi0b 0; have hi2b := blk_cell hi0b 1; have hi3b := blk_cell hi0b 2; have hi4b := blk_cell hi0b 3; have hi5b := blk_cell hi0b 4; simp only [List.getElem?_toArray, List.getElem?_cons_zero, List.getElem?_cons_succ] at hx1b hi1b hi2b hi3b hi4b hi5b) | (go_at_call 50; (with_reducible refine (inst_Encode.calls _ _ _ _ _ _ _ HEC2.out).mono ?_); rintro e_ w2 ⟨rfl, hb2⟩; have hx0c := blk_below (by repeat (first | exact hx0b | apply blk_drew)) hb2; have hi0c := blk_below (by repeat (first | exact hi0b | apply blk_drew)) hb2; have hz0b := blk_below (by repeat (first | exact hz0a | apply blk_drew)) hb2; have hx1c := blk_cell hx0c 0; have hi1c := blk_cell hi0c 0; have hi2c := blk_cell hi0c 1; have hi3c := blk_cell hi0c 2; have hi4c := blk_cell hi0c 3; have hi5c := blk_cell hi0c 4; simp only [List.getElem?_toArray, List.getElem?_cons_zero, List.getElem?_cons_succ] at hx1c hi1c hi2c hi3c hi4c hi5c))
        all_goals
          have hc0 := (blk_cell hz0b 0).trans rfl
          have hc1 := (blk_cell hz0b 1).trans rfl
          have hc2 := (blk_cell hz0b 2).trans rfl
          have hc3 := (blk_cell hz0b 3).trans rfl
          have hc4 := (blk_cell hz0b 4).trans rfl
          have hf0 := blk_frozen hz0b 0
          have hf1 := blk_frozen hz0b 1
          have hf2 := blk_frozen hz0b 2
          have hf3 := blk_frozen hz0b 3
          have hf4 := blk_frozen hz0b 4
          go_wp2
          have hsz := hBx.size
          have hz0d := blk_put (blk_put (blk_put (blk_put (blk_put (hz0b) 0 (.int .i64 0) rfl) 1 (.int .i64 0) rfl) 2 (.int .i64 0) rfl) 3 (.int .i64 0) rfl) 4 (.int .i32 0) rfl
          have hd0 := (blk_cell hz0d 0).trans rfl
          have hd1 := (blk_cell hz0d 1).trans rfl
          have hd2 := (blk_cell hz0d 2).trans rfl
          have hd3 := (blk_cell hz0d 3).trans rfl
          have hd4 := (blk_cell hz0d 4).trans rfl
          simp at hd0 hd1 hd2 hd3 hd4
          refine bodyPost_ret (v := .tuple #[.agg #[.int .i64 0, .int .i64 0, .int .i64 0, .int .i64 0, .int .i32 0], .bool false]) (by simp [results, Tryz.f24, go_sem, hd0, hd1, hd2, hd3, hd4]) rfl ?_
          refine ⟨by rw [← HRV.out]; simp [hecx], ?_⟩
          repeat (refine below_set ?_ (by simp))
          exact below_step (by repeat (first | exact below_step (by repeat (first | exact hBx | apply below_drew1)) hb | apply below_drew1)) hb2
end Go.Proofs.YtbelnkdbghggmaaGreatDoor.X
namespace Go.Proofs.YtbelnkdbghggmaaGreatDoor.X
open Go.RowKit Go.Proofs.YtbelnkdbghggmaaGreatDoorW.PrintWords Go.Proofs.YtbelnkdbghggmaaGreatDoorW.PrintLast
def decI (x : Int) : Int := IntKind.i32.wrap (x / 4294967296)
def inst_Decode.f (a0 : Int) : Option (Int × Int × Int × Int × Int × Bool) := (inst_Fit.f (decOp a0) (decA a0) (decB a0) (decC a0) (decI a0)).bind fun t => if t = true then (inst_Encode.f (decOp a0) (decA a0) (decB a0) (decC a0) (decI a0)).bind fun e => if e = a0 then some (decOp a0, decA a0, decB a0, decC a0, decI a0, true) else some (0, 0, 0, 0, 0, false) else some (0, 0, 0, 0, 0, false)
theorem inst_Decode.calls (a0 : Int) (r1 : Int) (r2 : Int) (r3 : Int) (r4 : Int) (r5 : Int) (r6 : Bool) (w : World) (h : inst_Decode.f a0 = some (r1, r2, r3, r4, r5, r6)) :
    Calls Tryz.prog 24 #[.int .u64 a0] w fun e w' => e = .returned (.tuple #[.agg #[.int .i64 r1, .int .i64 r2, .int .i64 r3, .int .i64 r4, .int .i32 r5], .bool r6]) ∧ Below w.heap.size w w' := by
  unfold inst_Decode.f at h
  obtain ⟨t, ht, h⟩ := Option.bind_eq_some_iff.1 h
  cases t
  · rw [if_neg (by decide)] at h
    cases h
    exact Decode_walk a0 (decI a0) false 0 w rfl ht (fun k => by cases k)
  · rw [if_pos rfl] at h
    obtain ⟨e, he, h⟩ := Option.bind_eq_some_iff.1 h
    have hw := Decode_walk a0 (decI a0) true e w rfl ht (fun _ => he)
    by_cases hc : e = a0
    · rw [if_pos hc] at h
      cases h
      rw [if_pos ⟨rfl, hc⟩, decide_eq_true (And.intro rfl hc)] at hw
      exact hw
    · rw [if_neg hc] at h
      cases h
      rw [if_neg (fun k => hc k.2), decide_eq_false (fun k => hc k.2)] at hw
      exact hw
end Go.Proofs.YtbelnkdbghggmaaGreatDoor.X
