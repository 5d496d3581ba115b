/- Texts of this claim that stand one behind another, merged. -/
import Derived.Test.YtbelnkdbghggmaaGreatDoorMg1
import Derived.Laws.StructEq
import Derived.Laws.World
import Derived.RangeFuncRecord
import Derived.Maps.Own
import Derived.Test.YtbelnkdbghggmaaGreatDoorMg2
import Derived.Test.YtbelnkdbghggmaaGreatDoorMg3
import Derived.Deep.QuietTactic
import Derived.BigQuiet
import Derived.OrdersIn
import Derived.RangeFuncCalls
import Derived.KernelRfl
import Derived.OwnWalkIn
import Derived.Sort.CutIn
namespace Go.Proofs.YtbelnkdbghggmaaGreatDoor.Mp
open Go.RowKit Go.Proofs.YtbelnkdbghggmaaGreatDoorW.PrintWords
set_option linter.unusedVariables false
set_option linter.unusedSimpArgs false
set_option linter.unusedSectionVars false

/-- Where a key stands, and its value. -/
def findL {K E : Type} [DecidableEq K] (k : K) : List (K × E) → Nat → Option (Nat × E)
  | [], _ => none
  | (a, v) :: r, i => if k = a then some (i, v) else findL k r (i + 1)
/-- A row with a key's value. -/
def putL {K E : Type} [DecidableEq K] (k : K) (v : E) : List (K × E) → List (K × E)
  | [] => [(k, v)]
  | (a, u) :: r => if k = a then (a, v) :: r else (a, u) :: putL k v r
def getL {K E : Type} [DecidableEq K] (k : K) (z : E) : List (K × E) → E
  | [] => z
  | (a, u) :: r => if k = a then u else getL k z r
section
variable {K E : Type} [DecidableEq K] {encK : K → Value} {encE : E → Value} {P : Program}
/-- Block r is a map that holds m. -/
def Is (encK : K → Value) (encE : E → Value) (W : World) (r : Nat) (m : List (K × E)) : Prop :=
  ∃ es clock, W.heap[r]? = some (.map es clock) ∧ es.toList.map (fun e => (e.key, e.val)) = m.map (fun x => (encK x.1, encE x.2))
/-- A key type whose keys' runs are told. -/
structure Key (P : Program) (kt : TypeId) (encK : K → Value) : Prop where
  eq : ∀ (w : World) (a b : K), (Op.equal kt (encK a) (encK b)).run P w = .ok (decide (a = b)) w
  check : ∀ (w : World) (e : Bool) (a : K), (Instr.checkKey e 10000 kt (encK a)).run P w = .ok () w
  under : ∃ d, P.underlying kt = some d ∧ ∀ a b : K, Instr.sameNow d (encK a) (encK b) = none ∨ Instr.sameNow d (encK a) (encK b) = some (decide (a = b))
  bits : ∀ a : K, Instr.sameBits 10000 (encK a) (encK a) = true
theorem Is.mk_new (W : World) : Is (K := K) (E := E) encK encE (W.alloc (.map #[] 0)) W.heap.size [] := ⟨#[], 0, World.alloc_heap_new W _, rfl⟩
theorem Is.lt {W : World} {r : Nat} {m : List (K × E)} (h : Is encK encE W r m) : r < W.heap.size := by
  obtain ⟨es, c, hh, _⟩ := h
  exact (Array.getElem?_eq_some_iff.1 hh).1
theorem Is.step {W W' : World} {r : Nat} {m : List (K × E)} (h : Is encK encE W r m) (hb : W'.heap[r]? = W.heap[r]?) : Is encK encE W' r m := by
  obtain ⟨es, c, hh, hm⟩ := h
  exact ⟨es, c, hb.trans hh, hm⟩
theorem Is.below {W W' : World} {r : Nat} {m : List (K × E)} (h : Is encK encE W r m) (hb : Below W.heap.size W W') : Is encK encE W' r m := h.step (hb.block r h.lt)
theorem findAsking_run {kt : TypeId} (H : Key P kt encK) (w : World) (k : K) : ∀ (es : List MapEntry) (m : List (K × E)) (i : Nat), es.map (fun e => (e.key, e.val)) = m.map (fun x => (encK x.1, encE x.2)) →
    (Instr.findAsking kt (encK k) es i).run P w = .ok ((findL k m i).map fun x => (x.1, encE x.2)) w
  | [], [], i, _ => by simp [Instr.findAsking, findL]
  | [], _ :: _, i, h => by simp at h
  | _ :: _, [], i, h => by simp at h
  | e :: es, (a, v) :: m, i, h => by
    simp only [List.map_cons, List.cons.injEq, Prod.mk.injEq] at h
    obtain ⟨⟨hk, hv⟩, hr⟩ := h
    rw [Instr.findAsking]
    simp only [Sem.run_bind, hk, H.eq, Result.andThen_ok, findL]
    by_cases hka : k = a
    · simp [hka, hv]
    · simp [hka, findAsking_run H w k es m (i + 1) hr]
theorem findNow_run {d : TypeDesc} (k : K) (hd : ∀ a b : K, Instr.sameNow d (encK a) (encK b) = none ∨ Instr.sameNow d (encK a) (encK b) = some (decide (a = b))) : ∀ (es : List MapEntry) (m : List (K × E)) (i : Nat), es.map (fun e => (e.key, e.val)) = m.map (fun x => (encK x.1, encE x.2)) →
    Instr.findNow d (encK k) es i = none ∨ Instr.findNow d (encK k) es i = some ((findL k m i).map fun x => (x.1, encE x.2))
  | [], [], i, _ => .inr (by simp [Instr.findNow, findL])
  | [], _ :: _, i, h => by simp at h
  | _ :: _, [], i, h => by simp at h
  | e :: es, (a, v) :: m, i, h => by
    simp only [List.map_cons, List.cons.injEq, Prod.mk.injEq] at h
    obtain ⟨⟨hk, hv⟩, hr⟩ := h
    rw [Instr.findNow, hk]
    rcases hd k a with h1 | h1
    · left
      rw [h1]
    · rw [h1]
      by_cases hka : k = a
      · right
        simp [hka, hv, findL]
      · simp only [decide_eq_false hka, findL, if_neg hka]
        exact findNow_run k hd es m (i + 1) hr
theorem findKey_run {kt : TypeId} (H : Key P kt encK) (w : World) (k : K) (es : List MapEntry) (m : List (K × E)) (h : es.map (fun e => (e.key, e.val)) = m.map (fun x => (encK x.1, encE x.2))) :
    (Instr.findKey kt (encK k) es).run P w = .ok ((findL k m 0).map fun x => (x.1, encE x.2)) w := by
  obtain ⟨d, hd, hs⟩ := H.under
  unfold Instr.findKey
  simp only [Sem.run_bind, run_underlying hd, Result.andThen_ok]
  rcases findNow_run k hs es m 0 h with h1 | h1
  · rw [h1]
    exact findAsking_run H w k es m 0 h
  · rw [h1]
    simp
theorem findL_get (k : K) (z : E) : ∀ (m : List (K × E)) (i : Nat), getL k z m = match findL k m i with | some (_, v) => v | none => z
  | [], i => rfl
  | (a, v) :: m, i => by
    simp only [getL, findL]
    by_cases h : k = a
    · simp [h]
    · simp only [if_neg h]
      exact findL_get k z m (i + 1)
theorem findL_spec (k : K) (v : E) : ∀ (m : List (K × E)) (i : Nat), match findL k m i with
    | some (j, _) => i ≤ j ∧ j - i < m.length ∧ (m[j - i]?).map Prod.fst = some k ∧ putL k v m = m.set (j - i) (k, v)
    | none => putL k v m = m ++ [(k, v)]
  | [], i => by simp [findL, putL]
  | (a, u) :: m, i => by
    simp only [findL, putL]
    by_cases h : k = a
    · subst h
      simp
    · simp only [if_neg h]
      have ih := findL_spec k v m (i + 1)
      revert ih
      cases findL k m (i + 1) with
      | none => intro ih; simpa using ih
      | some x =>
        obtain ⟨j, w⟩ := x
        rintro ⟨h1, h2, h3, h4⟩
        have e : j - i = j - (i + 1) + 1 := by omega
        show i ≤ j ∧ j - i < ((a, u) :: m).length ∧ Option.map Prod.fst ((a, u) :: m)[j - i]? = some k ∧ (a, u) :: putL k v m = ((a, u) :: m).set (j - i) (k, v)
        rw [e]
        exact ⟨by omega, by simpa using h2, by simpa using h3, by simpa using h4⟩
end
end Go.Proofs.YtbelnkdbghggmaaGreatDoor.Mp
namespace Go.Proofs.YtbelnkdbghggmaaGreatDoor.Mp
open Go.RowKit Go.Proofs.YtbelnkdbghggmaaGreatDoorW.PrintWords
set_option linter.unusedVariables false
set_option linter.unusedSimpArgs false
section
variable {K E : Type} [DecidableEq K] {encK : K → Value} {encE : E → Value} {P : Program}
def hasL (k : K) : List (K × E) → Bool
  | [] => false
  | (a, _) :: r => if k = a then true else hasL k r
theorem findL_has (k : K) : ∀ (m : List (K × E)) (i : Nat), (findL k m i).isSome = hasL k m
  | [], i => rfl
  | (a, v) :: m, i => by
    simp only [findL, hasL]
    split
    · rfl
    · exact findL_has k m (i + 1)
/-- 'v, ok := m[k]'. -/
theorem lookup_ok_run {T kt et : TypeId} (hT : P.underlying T = some (.map kt et)) (H : Key P kt encK) {z : E} (hz : ∀ w, (zeroValue et).run P w = .ok (encE z) w) {W : World} {r : Nat} {m : List (K × E)} (h : Is encK encE W r m) (k : K) :
    (Instr.lookup T (.map (some r)) (encK k) true).run P W = .ok (.tuple #[encE (getL k z m), .bool (hasL k m)]) W := by
  obtain ⟨es, c, hh, hm⟩ := h
  unfold Instr.lookup
  simp only [Sem.run_bind, run_underlying hT, Result.andThen_ok]
  have hg : (getObj r).run P W = .ok (.map es c) W := by simp [getObj, Sem.run, hh]
  have hf := findKey_run H W k es.toList m hm
  rw [findL_get k z m 0, ← findL_has k m 0]
  cases hx : findL k m 0 with
  | none =>
    rw [hx] at hf
    simp [hg, H.check, hf, hz]
  | some x =>
    rw [hx] at hf
    simp [hg, H.check, hf]
end
theorem beqB (a b : ByteArray) : (a == b) = decide (a = b) := by
  cases a; cases b; rename_i x y
  show (x == y) = _
  rw [Bool.eq_iff_iff]
  simp
def encS (s : ByteArray) : Value := .string s
def encN (n : Int) : Value := .int .i64 n
theorem key9 : Key Tryz.prog 9 encS where
  eq w a b := by
    rw [← beqB]
    show (Op.equalIn (9999 + 1) 9 (.string a) (.string b)).run Tryz.prog w = .ok (a == b) w
    rw [Op.equalIn.eq_def]
    simp only [run_underlying Tryz.underlying9, Sem.run_bind, Result.andThen_ok]
    rfl
  check w e a := by kernel_rfl
  under := ⟨_, Tryz.underlying9, fun a b => by simp [Instr.sameNow, encS]; exact beqB a b⟩
  bits a := by simp [Instr.sameBits, encS]; rw [beqB]; simp
theorem zero3 (w : World) : (zeroValue 3).run Tryz.prog w = .ok (.int .i64 0) w := by kernel_rfl
end Go.Proofs.YtbelnkdbghggmaaGreatDoor.Mp
namespace Go.Proofs.YtbelnkdbghggmaaGreatDoor.X
open Go.RowKit Go.Proofs.YtbelnkdbghggmaaGreatDoorW.PrintWords Go.Proofs.YtbelnkdbghggmaaGreatDoorW.PrintLast
set_option linter.unusedVariables false
set_option linter.unusedSimpArgs false
/-- A line whose numbers and texts are as the model's. -/
def wfX (x : S40) : Prop := (-2147483648 ≤ x.f1.f4 ∧ x.f1.f4 ≤ 2147483647) ∧ x.f0.size ≤ 9223372036854775807 ∧ x.f2.size ≤ 9223372036854775807
def jumpsB (op : Int) : Bool := decide (op = 18) || decide (op = 19) || decide (op = 20) || decide (op = 21)
/-- Whether a line is one. -/
def goodB (x : S40) : Bool :=
  if x.f0.toList = ([] : List UInt8) then fitB x.f1.f0 x.f1.f1 x.f1.f2 x.f1.f3 x.f1.f4 && (decide (x.f2.toList = ([] : List UInt8)) || (namedB x.f2 && (decide (x.f1.f0 = 1) || (jumpsB x.f1.f0 && decide (x.f1.f4 = 0)))))
  else namedB x.f0 && ((x.f1.f0 == 0 && (x.f1.f1 == 0 && (x.f1.f2 == 0 && (x.f1.f3 == 0 && (x.f1.f4 == 0))))) && (x.f2.toList == ([] : List UInt8)))
theorem jumps_val (op : Int) : asm_jumps.f op = some (jumpsB op) := by
  unfold asm_jumps.f jumpsB
  by_cases h1 : op = 18 <;> by_cases h2 : op = 19 <;> by_cases h3 : op = 20 <;> by_cases h4 : op = 21 <;> simp [h1, h2, h3, h4]
theorem good_val (x : S40) (h : wfX x) : asm_good.f x.f0 x.f1.f0 x.f1.f1 x.f1.f2 x.f1.f3 x.f1.f4 x.f2 = some (goodB x) := by
  obtain ⟨he, h0, h2⟩ := h
  unfold asm_good.f goodB inst_Fit.f asm_named.f
  rw [if_pos he, if_pos h0, if_pos h2, jumps_val]
  simp only [Option.bind_some]
  by_cases hm : x.f0.toList = ([] : List UInt8)
  · rw [if_pos hm, if_pos hm]
    cases fitB x.f1.f0 x.f1.f1 x.f1.f2 x.f1.f3 x.f1.f4 with
    | false => rw [if_neg (by decide)]; rfl
    | true =>
      rw [if_pos rfl, Bool.true_and]
      by_cases ht : x.f2.toList = ([] : List UInt8)
      · rw [if_pos ht, decide_eq_true ht]; rfl
      · rw [if_neg ht, decide_eq_false ht, Bool.false_or]
        cases namedB x.f2 with
        | false => rw [if_neg (by decide)]; rfl
        | true =>
          rw [if_pos rfl, Bool.true_and]
          by_cases ho : x.f1.f0 = 1
          · rw [if_pos ho, decide_eq_true ho]; rfl
          · rw [if_neg ho, decide_eq_false ho, Bool.false_or]
            cases jumpsB x.f1.f0 with
            | false => rw [if_neg (by decide)]; rfl
            | true =>
              rw [if_pos rfl, Bool.true_and]
              by_cases hz : x.f1.f4 = 0 <;> simp [hz]
  · rw [if_neg hm, if_neg hm]
    cases namedB x.f0 with
    | false => rw [if_neg (by decide)]; rfl
    | true => rw [if_pos rfl]; rfl
theorem good_any (x : S40) (h : wfX x) (w : World) : Calls Tryz.prog 17 #[.agg (lineC x)] w fun e w' => e = .returned (.bool (goodB x)) ∧ Below w.heap.size w w' :=
  asm_good.calls _ _ _ _ _ _ _ _ w (good_val x h)
end Go.Proofs.YtbelnkdbghggmaaGreatDoor.X
namespace Go.Proofs.YtbelnkdbghggmaaGreatDoor.Mp
open Go.RowKit Go.Proofs.YtbelnkdbghggmaaGreatDoorW.PrintWords
set_option linter.unusedVariables false
set_option linter.unusedSimpArgs false
section
variable {K E : Type} [DecidableEq K] {encK : K → Value} {encE : E → Value} {P : Program}
/-- 'm[k] = v', in each world with this heap. -/
theorem mapUpdate_runs {T kt et : TypeId} (hT : P.underlying T = some (.map kt et)) (H : Key P kt encK) {W : World} {r : Nat} {m : List (K × E)} (h : Is encK encE W r m) (k : K) (v : E) :
    ∃ es clock, (∀ W' : World, W'.heap = W.heap → (Instr.mapUpdate T (.map (some r)) (encK k) (encE v)).run P W' = .ok () (W'.putObj r (.map es clock))) ∧ ∀ W' : World, W'.heap[r]? = some (.map es clock) → Is encK encE W' r (putL k v m) := by
  obtain ⟨es, c, hh, hm⟩ := h
  have hsp := findL_spec k v m 0
  unfold Instr.mapUpdate
  simp only [Sem.run_bind, run_underlying hT, Result.andThen_ok]
  have hg : ∀ W' : World, W'.heap = W.heap → (getObj r).run P W' = .ok (.map es c) W' := fun W' hW => by simp [getObj, Sem.run, hW, hh]
  have hset : ∀ (W' : World) (o : Obj), W'.heap = W.heap → (setObj r o).run P W' = .ok () (W'.putObj r o) := fun W' o hW => by simp [setObj, Sem.run, hW, hh, World.putObj]
  revert hsp
  cases hf : findL k m 0 with
  | none =>
    intro hsp
    refine ⟨es.push { key := encK k, val := encE v, born := c }, c + 1, fun W' hW => ?_, fun W' hW => ⟨_, _, hW, ?_⟩⟩
    · simp [hg W' hW, H.check, findKey_run H W' k es.toList m hm, hf, hset W' _ hW]
    · rw [hsp]
      simp [hm]
  | some x =>
    obtain ⟨j, u⟩ := x
    rintro ⟨_, hj, hk, hp⟩
    rw [Nat.sub_zero] at hj hk hp
    have hlen : es.size = m.length := by have := congrArg List.length hm; simpa using this
    have hes : es[j]? = some (es[j]'(by omega)) := Array.getElem?_eq_getElem (by omega)
    have hkey : (es[j]'(by omega)).key = encK k := by
      have h1 := congrArg (fun l => l[j]?) hm
      simp only [List.getElem?_map] at h1
      rw [Array.getElem?_toList, hes] at h1
      rw [List.getElem?_eq_getElem hj] at h1 hk
      simp only [Option.map_some, Option.some.injEq, Prod.mk.injEq] at h1 hk
      rw [h1.1, hk]
    refine ⟨es.modify j fun e => { e with key := encK k, val := encE v }, c, fun W' hW => ?_, fun W' hW => ⟨_, _, hW, ?_⟩⟩
    · simp [hg W' hW, H.check, findKey_run H W' k es.toList m hm, hf, hes, hkey, Instr.keyThatStays, H.bits, hset W' _ hW]
    · rw [hp]
      apply List.ext_getElem?
      intro i
      have h1 := congrArg (fun l => l[i]?) hm
      simp only [List.getElem?_map] at h1
      simp only [List.getElem?_map, Array.getElem?_toList, Array.getElem?_modify, List.getElem?_set]
      rw [Array.getElem?_toList] at h1
      by_cases hij : j = i
      · subst hij
        simp [hj, hes]
      · simp [hij, h1]
end
end Go.Proofs.YtbelnkdbghggmaaGreatDoor.Mp
namespace Go.Proofs.YtbelnkdbghggmaaGreatDoor.X
open Go.RowKit Go.Proofs.YtbelnkdbghggmaaGreatDoorW.PrintWords Go.Proofs.YtbelnkdbghggmaaGreatDoorW.PrintLast
set_option linter.unusedVariables false
set_option linter.unusedSimpArgs false
abbrev Marks := List (ByteArray × Int)
def numN (marks : Marks) (i : Int) (x : S40) : Int := if x.f1.f0 = 1 then Mp.getL x.f2 0 marks + x.f1.f4 else Mp.getL x.f2 0 marks - i - 1
def numR (marks : Marks) (i : Int) (x : S40) : Int × Int :=
  if Mp.hasL x.f2 marks = true then (if numN marks i x < -2147483648 ∨ 2147483647 < numN marks i x then (0, 13) else (numN marks i x, 0)) else (0, 1)
theorem Is.drewN {W : World} {r : Nat} {m : Marks} (h : Mp.Is Mp.encS Mp.encN W r m) (k : Nat) : Mp.Is Mp.encS Mp.encN (W.drewN k) r m := h.step rfl
set_option maxRecDepth 100000 in
set_option maxHeartbeats 8000000 in
theorem number_any (Bp M : Nat) (lv ov : Value) (marks : Marks) (i : Int) (x : S40) (w : World)
    (hp : w.heap[Bp]? = some (.cells #[lv, .map (some M), ov] 60 (0, 0))) (hM : Mp.Is Mp.encS Mp.encN w M marks)
    (hi : 0 ≤ i ∧ i ≤ 1099511627776) (ht : 0 ≤ Mp.getL x.f2 0 marks ∧ Mp.getL x.f2 0 marks ≤ 1099511627776) (he : -2147483648 ≤ x.f1.f4 ∧ x.f1.f4 ≤ 2147483647) :
    Calls Tryz.prog 49 #[.pointer (some ⟨Bp, 0, none⟩), .int .i64 i, .agg (lineC x)] w fun e w' => e = .returned (.tuple #[.int .i32 (numR marks i x).1, .int .i64 (numR marks i x).2]) ∧ Below w.heap.size w w' := by
  have hp1 := blk_alloc hp (.cells (lineC x) 40)
  have hM1 : Mp.Is Mp.encS Mp.encN (w.alloc (.cells (lineC x) 40)) M marks := hM.below ((Below.refl _ w).alloc (Nat.le_refl _) _)
  have hlk := fun k => Mp.lookup_ok_run Tryz.underlying58 Mp.key9 (encE := Mp.encN) Mp.zero3 (Is.drewN hM1 k) x.f2
  have hcm := blk_cell hp1 1
  have hnr : ∃ N, N = (if x.f1.f0 = 1 then Mp.getL x.f2 0 marks + x.f1.f4 else Mp.getL x.f2 0 marks - i - 1) ∧ numR marks i x = (if Mp.hasL x.f2 marks = true then (if N < -2147483648 ∨ 2147483647 < N then (0, 13) else (N, 0)) else (0, 1)) := ⟨_, rfl, rfl⟩
  obtain ⟨N, hN, hnr⟩ := hnr
  unfold Mp.encS Mp.encN at hlk
  simp only [List.getElem?_toArray, List.getElem?_cons_zero, List.getElem?_cons_succ] at hcm
  unfold lineC at *
  generalize Mp.getL x.f2 0 marks = tt at *
  generalize Mp.hasL x.f2 marks = has at *
  have HNR := Lib.hid hnr
  have HN := Lib.hid hN
  have hlk0 := hlk 0
  rw [World.drewN_zero] at hlk0
  clear hnr hN hp hp1 hM hM1
  obtain ⟨hi0, hi1⟩ := hi
  obtain ⟨ht0, ht1⟩ := ht
  obtain ⟨he0, he1⟩ := he
  go_enter Tryz.func49, Tryz.ntmps49
  go_wp2
  go_quiet (fail)
  have HB := Lib.hid (pw_below_drewN (below_alloc (Below.refl w.heap.size w) (.cells #[.string x.f0, .int .i64 x.f1.f0, .int .i64 x.f1.f1, .int .i64 x.f1.f2, .int .i64 x.f1.f3, .int .i32 x.f1.f4, .string x.f2] 40)) nq)
  clear hlk hlk0 hcm
  cases has with
  | false =>
    go_wp2
    go_ret2
    exact ⟨by rw [HNR.out]; rfl, HB.out⟩
  | true =>
    by_cases hop : x.f1.f0 = 1
    · have HN2 : Hid (N = tt + x.f1.f4) := Lib.hid (by rw [HN.out, if_pos hop])
      have hop2 : (x.f1.f0 == 1) = true := by rw [hop]; rfl
      clear HN hop
      by_cases h1 : tt + x.f1.f4 < -2147483648
      · exfalso; omega
      · by_cases h2 : 2147483647 < tt + x.f1.f4
        · have HR := Lib.hid (HNR.out.trans (by rw [HN2.out, if_pos (by simp), if_pos (.inr h2)]) : numR marks i x = (0, 13))
          go_wp2
          go_ret2
          exact ⟨by rw [HR.out]; rfl, HB.out⟩
        · have HR := Lib.hid (HNR.out.trans (by rw [HN2.out, if_pos (by simp), if_neg (by omega)]) : numR marks i x = (tt + x.f1.f4, 0))
          go_wp2
          go_ret2
          exact ⟨by rw [HR.out]; rfl, HB.out⟩
    · have HN2 : Hid (N = tt - i - 1) := Lib.hid (by rw [HN.out, if_neg hop])
      have hop2 : (x.f1.f0 == 1) = false := by simpa using hop
      clear HN hop
      by_cases h1 : tt - i - 1 < -2147483648
      · have HR := Lib.hid (HNR.out.trans (by rw [HN2.out, if_pos (by simp), if_pos (.inl h1)]) : numR marks i x = (0, 13))
        go_wp2
        go_ret2
        exact ⟨by rw [HR.out]; rfl, HB.out⟩
      · by_cases h2 : 2147483647 < tt - i - 1
        · have HR := Lib.hid (HNR.out.trans (by rw [HN2.out, if_pos (by simp), if_pos (.inr h2)]) : numR marks i x = (0, 13))
          go_wp2
          go_ret2
          exact ⟨by rw [HR.out]; rfl, HB.out⟩
        · have HR := Lib.hid (HNR.out.trans (by rw [HN2.out, if_pos (by simp), if_neg (by omega)]) : numR marks i x = (tt - i - 1, 0))
          go_wp2
          go_ret2
          exact ⟨by rw [HR.out]; rfl, HB.out⟩
end Go.Proofs.YtbelnkdbghggmaaGreatDoor.X
namespace Go.Proofs.YtbelnkdbghggmaaGreatDoor.Rh
open Go
section
variable {F : Fence} {n : Nat} {P : Program} {ops : Array Oper} {Q : Exit → Act → World → Prop} {md : Region.Mode} {S : World → Prop} {L : Nat → Bool}
def NoDefer (ops : Array Oper) : Prop := ∀ (j : Nat) (o : Oper), ops[j]? = some o → ∀ c, o.op ≠ .defer c
def noDeferB (ops : Array Oper) : Bool := ops.all fun o => match o.op with
  | .defer _ => false
  | _ => true
theorem noDefer_of {ops : Array Oper} (h : noDeferB ops = true) : NoDefer ops := fun j o ho c hc => by
  unfold noDeferB at h
  rw [Array.all_eq_true'] at h
  have := h o (Array.mem_of_getElem? ho)
  rw [hc] at this
  cases this
/-- It yields v in every world that meets S, leaves it as it is, and makes no call. -/
def YieldsS (P : Program) (ops : Array Oper) (S : World → Prop) (o : Oper) (v : Value) (a : Act) : Prop :=
  (Region.wanted o (yielded ops a.tmps) = true ∧ ∀ w, S w → (execOp a.eval o).run P w = .ok (.value v) w) ∧ ∀ w, o.about P w a.eval = none
theorem YieldsS.of_same {o : Oper} {v : Value} {a a' : Act} (hy : YieldsS P ops S o v a) (he : execOp a'.eval o = execOp a.eval o)
    (hw : Region.wanted o (yielded ops a'.tmps) = Region.wanted o (yielded ops a.tmps)) (hb : ∀ w, o.about P w a'.eval = o.about P w a.eval) : YieldsS P ops S o v a' := by
  unfold YieldsS at *
  rw [he, hw]
  exact ⟨hy.1, fun w => by rw [hb w]; exact hy.2 w⟩
theorem YieldsS.wpOpIn {i : Nat} {o : Oper} {v : Value} {a : Act} (hnd : NoDefer ops) (hi : ops[i]? = some o) (hy : YieldsS P ops S o v a)
    {K : Act → World → Prop} {w : World} (hS : S w) (h : K (a.put o.dst v) w) : wpOpIn F n P ops Q i K a w := by
  unfold Go.wpOpIn
  simp only [hi]
  have hab : ∀ f, o.about P w a.eval = some f → F.fn f := fun f hf => by rw [hy.2 w] at hf; cases hf
  obtain ⟨hw, hv⟩ := hy.1
  simp only [hw, if_true, Oper.wpIn, Oper.semAt_eq _ _ _ (hnd i o hi), hv w hS, Oper.uponIn]
  exact ⟨hab, h⟩
theorem wpOpIn_putS {j : Nat} {oi oj : Oper} {v : Value} (hnd : NoDefer ops) (hj : ops[j]? = some oj) (hap : oi.apart ops oj = true)
    (hsi : ∀ cs b, oi.op ≠ .select cs b) (hsj : ∀ cs b, oj.op ≠ .select cs b)
    (hQ : ∀ c a w, Q (.panic c) (a.put oi.dst v) w → Q (.panic c) a w) {K : Act → World → Prop} {a : Act} {w : World}
    (hy : YieldsS P ops S oi v a) (h : wpOpIn F n P ops Q j K (a.put oi.dst v) w) :
    wpOpIn F n P ops Q j (fun a' w' => YieldsS P ops S oi v a' ∧ K (a'.put oi.dst v) w') a w := by
  obtain ⟨h1, h2, h3⟩ := Oper.apart_spec hap
  have keep : ∀ (a : Act), YieldsS P ops S oi v a → ∀ u, YieldsS P ops S oi v (a.put oj.dst u) := fun a hy u =>
    hy.of_same (execOp_put oi hsi a oj.dst u h3) (wanted_put oi a oj.dst u h3) (fun w => about_put oi w a oj.dst u h3)
  have keepD : ∀ d, YieldsS P ops S oi v { a with defers := d :: a.defers } := fun d => hy.of_same rfl rfl (fun _ => rfl)
  have hd := hnd j oj hj
  unfold wpOpIn at *
  simp only [hj] at *
  rw [wanted_put oj a oi.dst v h1, about_put oj w a oi.dst v h1] at h
  split
  · rename_i hw
    simp only [hw, if_true] at h
    unfold Oper.wpIn at *
    rw [about_put oj w a oi.dst v h1] at h
    refine ⟨h.1, ?_⟩
    have h := h.2
    rw [Oper.semAt_eq _ _ _ hd, execOp_put oj hsj a oi.dst v h1] at h
    rw [Oper.semAt_eq _ _ _ hd]
    generalize (execOp a.eval oj).run P w = r at *
    cases r with
    | ok x w' =>
      cases x <;> simp only [Oper.uponIn] at h ⊢
      case value u => exact ⟨keep a hy u, by rw [← Act.put_comm a v u h2]; exact h⟩
      case skip => exact ⟨keep a hy _, by rw [← Act.put_comm a v undef h2]; exact h⟩
      case defer d =>
        refine ⟨keep _ (keepD d) _, ?_⟩
        rw [← Act.put_comm _ v undef h2, ← Act.put_defers]
        exact h
      case enter f args =>
        refine ⟨h.1, CallsIn.mono h.2 fun e w'' he => ?_⟩
        cases e with
        | returned u => exact ⟨keep a hy u, by rw [← Act.put_comm a v u h2]; exact he⟩
        | panicked c => exact hQ _ _ _ he
        | outgrown => exact he
      case row row args => exact ⟨h.1, RowsIn.mono h.2 fun u w'' he => ⟨keep a hy u, by rw [← Act.put_comm a v u h2]; exact he⟩⟩
      case round l f tmps assign body =>
        refine ⟨h.1, RoundIn.mono h.2 fun e w'' he => ?_⟩
        cases e with
        | returned u => exact ⟨keep a hy u, by rw [← Act.put_comm a v u h2]; exact he⟩
        | panicked c => exact hQ _ _ _ he
        | outgrown => exact he
    | halt x w' =>
      cases x <;> simp only [Oper.uponIn] at h ⊢
      case panic u => exact hQ _ _ _ h
  · rename_i hw
    simp only [hw] at h
    exact ⟨h.1, keep a hy _, by rw [← Act.put_comm a v undef h2]; exact h.2⟩
/-- The operations of L wait for number i. -/
def LastOk (md : Region.Mode) (ops : Array Oper) (L : Nat → Bool) (i : Nat) : Prop := ∀ (j : Nat) (o : Oper), ops[j]? = some o → L j = true → i ≠ j → ∃ e ∈ o.after, Region.binds md e = true ∧ e.on = i
def lastB (md : Region.Mode) (ops : Array Oper) (L : Nat → Bool) (i : Nat) : Bool := (List.range ops.size).all fun j => !L j || (match ops[j]? with
  | some o => i == j || o.after.any fun e => Region.binds md e && e.on == i
  | none => true)
theorem last_of {md : Region.Mode} {ops : Array Oper} {L : Nat → Bool} {i : Nat} (h : lastB md ops L i = true) : LastOk md ops L i := fun j o ho hl hne => by
  unfold lastB at h
  rw [List.all_eq_true] at h
  have h1 := h j (List.mem_range.2 (Array.getElem?_eq_some_iff.1 ho).1)
  rw [hl, ho] at h1
  simp only [Bool.not_true, Bool.false_or] at h1
  rw [show (i == j) = false by simpa using hne, Bool.false_or, Array.any_eq_true] at h1
  obtain ⟨k, hk, h3⟩ := h1
  rw [Bool.and_eq_true] at h3
  exact ⟨_, Array.getElem_mem hk, h3.1, by simpa using h3.2⟩
/-- Whatever order is picked from here on, and S holds behind each operation that is carried out, but for those of L. -/
def wpAnyS (F : Fence) (n : Nat) (P : Program) (md : Region.Mode) (ops : Array Oper) (Q : Exit → Act → World → Prop) (S : World → Prop) (L : Nat → Bool) : Nat → Array Bool → Act → World → Prop
  | 0, listed, a, w => Region.ready md ops listed = [] ∧ Q .normal a w
  | fuel + 1, listed, a, w =>
    (Region.ready md ops listed = [] → Q .normal a w) ∧
    ∀ i ∈ Region.ready md ops listed, wpOpIn F n P ops Q i (fun a' w' => (L i = false → S w') ∧ wpAnyS F n P md ops Q S L fuel (listed.setIfInBounds i true) a' w') a w
theorem wpAnyIn_of_S : ∀ (fuel : Nat) (listed : Array Bool) (a : Act) (w : World), wpAnyS F n P md ops Q S L fuel listed a w → wpAnyIn F n P md ops Q fuel listed a w
  | 0, _, _, _, h => h
  | fuel + 1, _, _, _, h => ⟨h.1, fun i hi => wpOpIn_mono (fun a' w' h' => wpAnyIn_of_S fuel _ a' w' h'.2) (h.2 i hi)⟩
theorem wpAnyS_first {i : Nat} {oi : Oper} {v : Value} (hnd : NoDefer ops) (hL : LastOk md ops L i) (hi : ops[i]? = some oi) (hsel : ∀ (j : Nat) (o : Oper) cs b, ops[j]? = some o → o.op ≠ .select cs b)
    (hQ : ∀ c a w, Q (.panic c) (a.put oi.dst v) w → Q (.panic c) a w) :
    ∀ (fuel : Nat) (listed : Array Bool) (a : Act) (w : World),
      (∀ j oj, ops[j]? = some oj → j ≠ i → listed.getD j true = false → (∀ e ∈ oj.after, Region.binds md e = true → e.on ≠ i) → oi.apart ops oj = true) →
      i ∈ Region.ready md ops listed → YieldsS P ops S oi v a → S w →
      wpAnyS F n P md ops Q S L fuel (listed.setIfInBounds i true) (a.put oi.dst v) w → wpAnyS F n P md ops Q S L (fuel + 1) listed a w := by
  intro fuel
  induction fuel with
  | zero =>
    intro listed a w _ hr hy hS H
    refine ⟨fun h => (by rw [h] at hr; cases hr), fun j hj => ?_⟩
    by_cases hji : j = i
    · subst hji; exact hy.wpOpIn hnd hi hS ⟨fun _ => hS, H⟩
    · have := ready_mono hj hji
      rw [H.1] at this
      cases this
  | succ fuel ih =>
    intro listed a w hfree hr hy hS H
    refine ⟨fun h => (by rw [h] at hr; cases hr), fun j hj => ?_⟩
    by_cases hji : j = i
    · subst hji; exact hy.wpOpIn hnd hi hS ⟨fun _ => hS, H⟩
    · have h1 := H.2 j (ready_mono hj hji)
      obtain ⟨hjun, oj, hoj, hall⟩ := mem_ready.1 hj
      have hnot : ∀ e ∈ oj.after, Region.binds md e = true → e.on ≠ i := fun e he hb heq => by
        have h1 := hall e he hb
        have h0 := (mem_ready.1 hr).1
        rw [heq] at h1
        rcases Nat.lt_or_ge i listed.size with h' | h'
        · simp [h'] at h0 h1; rw [h0] at h1; cases h1
        · simp [Array.getElem?_eq_none h'] at h1
      have h2 := wpOpIn_putS hnd hoj (hfree j oj hoj hji hjun hnot) (fun cs b => hsel i oi cs b hi) (fun cs b => hsel j oj cs b hoj) hQ hy h1
      have hfree' : ∀ k ok, ops[k]? = some ok → k ≠ i → (listed.setIfInBounds j true).getD k true = false →
          (∀ e ∈ ok.after, Region.binds md e = true → e.on ≠ i) → oi.apart ops ok = true := fun k ok hk hki hun hno => by
        refine hfree k ok hk hki ?_ hno
        by_cases hjk : j = k
        · subst hjk; exact hjun
        · rw [getD_set_ne true hjk] at hun; exact hun
      have hLj : L j = false := by
        cases hl : L j with
        | false => rfl
        | true =>
          obtain ⟨e, he, hb, hon⟩ := hL j oj hoj hl (Ne.symm hji)
          exact absurd hon (hnot e he hb)
      refine wpOpIn_mono (fun a' w' h3 => ⟨h3.2.1, ih (listed.setIfInBounds j true) a' w' hfree' (ready_mono hr (Ne.symm hji)) h3.1 (h3.2.1 hLj) ?_⟩) h2
      rw [Array.setIfInBounds_comm _ _ hji]
      exact h3.2.2
/-- Take number i first. -/
theorem take {i : Nat} {oi : Oper} {v : Value} {fuel : Nat} {listed : Array Bool} {a : Act} {w : World} (hnd : NoDefer ops) (hL : LastOk md ops L i) (hi : ops[i]? = some oi)
    (hs : Region.noSelect ops = true) (hf : Region.free md ops listed i = true) (hr : (Region.ready md ops listed).contains i = true)
    (hQ : ∀ c a w, Q (.panic c) (a.put oi.dst v) w → Q (.panic c) a w) (hS : S w) (hw : Region.wanted oi (yielded ops a.tmps) = true) (hab : ∀ w, oi.about P w a.eval = none) (hy : ∀ w, S w → (execOp a.eval oi).run P w = .ok (.value v) w)
    (d : Tmp) (hd : oi.dst = some d) (h : wpAnyS F n P md ops Q S L fuel (listed.setIfInBounds i true) (a.put (some d) v) w) : wpAnyS F n P md ops Q S L (fuel + 1) listed a w := by
  rw [← hd] at h
  exact wpAnyS_first hnd hL hi (Region.noSelect_spec hs) hQ fuel listed a w (Region.free_spec hi hf) (by simpa using hr) ⟨⟨hw, hy⟩, hab⟩ hS h
/-- The one that may come up. -/
theorem one {i : Nat} {o : Oper} {fuel : Nat} {listed : Array Bool} {a : Act} {w : World} (hi : ops[i]? = some o) (hr : Region.ready md ops listed = [i]) (hw : Region.wanted o (yielded ops a.tmps) = true)
    (h : o.wpIn F n P a w (fun a' w' => (L i = false → S w') ∧ wpAnyS F n P md ops Q S L fuel (listed.setIfInBounds i true) a' w') Q) : wpAnyS F n P md ops Q S L (fuel + 1) listed a w :=
  ⟨fun h0 => (by rw [h0] at hr; cases hr), fun j hj => by
    rw [hr] at hj
    obtain rfl := List.mem_singleton.1 hj
    unfold wpOpIn
    simp only [hi, hw, if_true]
    exact h⟩
theorem done {listed : Array Bool} {a : Act} {w : World} (hr : Region.ready md ops listed = []) (h : Q .normal a w) : ∀ fuel, wpAnyS F n P md ops Q S L fuel listed a w
  | 0 => ⟨hr, h⟩
  | _ + 1 => ⟨fun _ => h, by rw [hr]; simp⟩
theorem start (S : World → Prop) (L : Nat → Bool) {id : Nat} {a : Act} {w : World} (hm : P.follows .mixedOrders = true)
    (h : wpAnyS F n P .any ops Q S L ops.size (Array.replicate ops.size false) a w.drew) : (Code.region id ops true).wpIn F n P Q a w :=
  wpIn_region_any hm (wpAnyIn_of_S _ _ _ _ h)
/-- An append whose run is told. -/
theorem app {o : Oper} {a : Act} {w : World} {K : Act → World → Prop} (s x : Operand) (t : TypeId) (hop : o.op = Op.call { callee := Callee.builtin Builtin.append, args := #[s, x], argTypes := #[t, t] }) (v u : Value) (hs : a.eval s = v) (hx : a.eval x = u) {v' : Value} {w' : World}
    (hrun : (Builtin.append_ #[t, t] o.type #[v, u]).run P w = .ok v' w') (d : Tmp) (hd : o.dst = some d) (hK : K (a.put (some d) v') w') : o.wpIn F n P a w K Q := by
  unfold Oper.wpIn
  refine ⟨?_, ?_⟩
  · simp [Oper.about, hop, resolve, Target.leads, Sem.run_pure]
  · rw [Oper.semAt_plain F _ _ (by rw [hop]; intro c hc'; cases hc')]
    simp only [execOp, hop, resolve, invoke, builtin, hs, hx, hrun, Result.andThen, Sem.run_bind, Sem.run_pure, List.map_toArray, List.map_cons, List.map_nil, Oper.uponIn]
    rw [hd]
    exact hK
end
end Go.Proofs.YtbelnkdbghggmaaGreatDoor.Rh
namespace Go.Proofs.YtbelnkdbghggmaaGreatDoor.X
open Go.RowKit Go.Shelf Go.Proofs.YtbelnkdbghggmaaGreatDoorW.PrintWords Go.Proofs.YtbelnkdbghggmaaGreatDoorW.PrintLast
attribute [local go_sem] Oper.semAt_some
set_option linter.unusedVariables false
set_option linter.unusedSimpArgs false
/-- What is wrong with a line; 0: nothing. -/
def stepE (m : Marks) (p : Int × S40) : Int :=
  if goodB p.2 = true then (if p.2.f0.toList = ([] : List UInt8) then (if p.1 = 4096 then 6 else 0) else (if Mp.hasL p.2.f0 m = true then 12 else 0)) else 11
def stepM (m : Marks) (p : Int × S40) : Marks := if p.2.f0.toList = ([] : List UInt8) then m else Mp.putL p.2.f0 p.1 m
/-- Marks behind lines of which none is wrong. -/
def okL : List (Int × S40) → Marks → Option Marks
  | [], m => some m
  | p :: r, m => if stepE m p = 0 then okL r (stepM m p) else none
theorem okL_append (a b : List (Int × S40)) (m : Marks) : okL (a ++ b) m = (okL a m).bind (okL b) := by
  induction a generalizing m with
  | nil => rfl
  | cons p r ih =>
    simp only [List.cons_append, okL]
    split
    · exact ih _
    · rfl
theorem okL_snoc {a : List (Int × S40)} {m m' : Marks} (p : Int × S40) (h : okL a m = some m') (h0 : stepE m' p = 0) : okL (a ++ [p]) m = some (stepM m' p) := by
  rw [okL_append, h]
  simp [okL, h0]
/-- The line with an error, the error, the marks. -/
def lookR : List (Int × S40) → Nat → Marks → Int × Int × Marks
  | [], _, m => (0, 0, m)
  | p :: r, i, m => if stepE m p = 0 then lookR r (i + 1) (stepM m p) else ((i : Int), stepE m p, m)
theorem lookR_ok {a : List (Int × S40)} {m m' : Marks} (i : Nat) (h : okL a m = some m') : lookR a i m = (0, 0, m') := by
  induction a generalizing m i with
  | nil => cases h; rfl
  | cons p r ih =>
    simp only [okL] at h
    split at h
    · rename_i h0
      simp only [lookR, if_pos h0]
      exact ih _ h
    · cases h
theorem lookR_bad {a b : List (Int × S40)} {m m' : Marks} (i : Nat) (p : Int × S40) (h : okL a m = some m') (h0 : stepE m' p ≠ 0) : lookR (a ++ p :: b) i m = (((i + a.length : Nat) : Int), stepE m' p, m') := by
  induction a generalizing m i with
  | nil =>
    cases h
    simp [lookR, h0]
  | cons q r ih =>
    simp only [okL] at h
    split at h
    · rename_i h1
      simp only [List.cons_append, lookR, if_pos h1]
      rw [ih _ h]
      simp [Nat.add_assoc, Nat.add_comm 1]
    · cases h
theorem mem_placed {l : List S40} {k : Nat} {p : Int × S40} (h : p ∈ placedL l k) : p.2 ∈ l ∧ (k : Int) ≤ p.1 ∧ p.1 < (k : Int) + l.length := by
  induction l generalizing k with
  | nil => cases h
  | cons x r ih =>
    simp only [placedL, List.mem_cons] at h
    rcases h with rfl | h
    · exact ⟨List.mem_cons_self, Int.le_refl _, by simp only [List.length_cons]; omega⟩
    · obtain ⟨h1, h2, h3⟩ := ih h
      refine ⟨List.mem_cons_of_mem _ h1, ?_, ?_⟩
      · split at h2 <;> omega
      · simp only [List.length_cons]
        split at h3 <;> omega
theorem own_keep {X Y : World} {row : Option Nat} {n : Nat} (hg : X.grownBy Y row) (hr : ∀ r, row = some r → n ≤ r ∧ ∃ o : Obj, X.heap[r]? = some o ∧ o.isCells = false) {k : Nat} {o : Obj} (hk : k < n) (h : X.heap[k]? = some o) : Y.heap[k]? = some o :=
  (hg.block k (Array.getElem?_eq_some_iff.1 h).1 (fun e => by have := (hr k e.symm).1; omega)).trans h
theorem boxB {W w2 : World} {B : Nat} {t : TypeId} {v : Value} (h : Boxed W B t v) (hb : Below W.heap.size W w2) : Boxed w2 B t v := blk_below h hb
theorem put_blk {W : World} {M b : Nat} {o o' : Obj} (hne : M ≠ b) (h : W.heap[b]? = some o) : (W.putObj M o').heap[b]? = some o := (World.putObj_heap_other (Ne.symm hne)).trans h
theorem KeepT.put {n₀ : Nat} {R : Nat → Prop} (W : World) (M : Nat) {o : Obj} (o' : Obj) (hn : n₀ ≤ M) (h : W.heap[M]? = some o) (h1 : o.isCells = false) : KeepT n₀ R W (W.putObj M o') :=
  KeepT.of_same ((Below.refl n₀ W).grown (grownBy_putObj' W M o') (by have := (Array.getElem?_eq_some_iff.1 h).1; omega) (fun k e => by cases e; exact hn)) (fun i cs t fr _ _ ho => put_blk (fun e => by subst e; rw [h] at ho; injection ho with ho; rw [ho] at h1; cases h1) ho)
theorem KeepT.drew {n₀ : Nat} {R : Nat → Prop} (W : World) : KeepT n₀ R W W.drew := KeepT.of_same (below_drew1 (Below.refl _ _)) fun _ _ _ _ _ _ h => h
theorem own_map {X Y : World} {row : Option Nat} {n M : Nat} {m : Marks} (hg : X.grownBy Y row) (hr : ∀ r, row = some r → n ≤ r ∧ ∃ o : Obj, X.heap[r]? = some o ∧ o.isCells = false) (hk : M < n) (h : Mp.Is Mp.encS Mp.encN X M m) : Mp.Is Mp.encS Mp.encN Y M m :=
  h.step (hg.block M h.lt (fun e => by have := (hr M e.symm).1; omega))
/-- A line with its place, as the model's. -/
def wfP (p : Int × S40) : Prop := (0 ≤ p.1 ∧ p.1 ≤ 1099511627776) ∧ wfX p.2
abbrev El := {p : Int × S40 // wfP p}
abbrev vals (l : List El) : List (Int × S40) := l.map (·.1)
set_option maxRecDepth 100000 in
set_option maxHeartbeats 8000000 in
theorem look_any (n₀ Bp M : Nat) (A : Option Addr) (c : Nat) (xs : List S40) (ov : Value) (w0 w : World) (hr : Kd.C k40 w0 A xs.length xs) (hn0 : w0.heap.size = n₀) (hb : Below n₀ w0 w) (hwf : ∀ p ∈ placedL xs 0, wfP p) (hx40 : xs.length ≤ 1099511627776)
    (hp : w.heap[Bp]? = some (.cells #[.slice A xs.length c, .map (some M), ov] 60 (0, 0))) (hM : Mp.Is Mp.encS Mp.encN w M ([] : Marks)) (hpn : n₀ ≤ Bp) (hMn : n₀ ≤ M) :
    Calls Tryz.prog 22 #[.pointer (some ⟨Bp, 0, none⟩)] w fun e_ w' => e_ = .returned (.tuple #[.int .i64 (lookR (placedL xs 0) 0 []).1, .int .i64 (lookR (placedL xs 0) 0 []).2.1]) ∧ Below n₀ w w' ∧ w.heap.size ≤ w'.heap.size ∧ w'.heap[Bp]? = some (.cells #[.slice A xs.length c, .map (some M), ov] 60 (0, 0)) ∧ Mp.Is Mp.encS Mp.encN w' M (lookR (placedL xs 0) 0 []).2.2 := by
  have hplaced := fun n W => (callsIn_wide (n := n)).2 (placed_calls A xs.length c W)
  have hs0 := hb.size
  have hMl := hM.lt
  have hpl : Bp < w.heap.size := (Array.getElem?_eq_some_iff.1 hp).1
  have hpc := blk_cell (blk_alloc (blk_alloc (blk_alloc (blk_alloc hp (.cells #[.pointer (some ⟨Bp, 0, none⟩)] 57)) (.cells #[.int .i64 0] 3)) (.cells #[.int .i64 0] 24)) (.cells #[.int .i64 0] 3)) 0
  simp only [List.getElem?_toArray, List.getElem?_cons_zero] at hpc
  refine (callsIn_wide (n := 3)).1 ?_
  refine callsIn_of_wp_marks Tryz.func22 rfl trivial ?_ rfl
  simp only [Tryz.ntmps22, List.size_toArray, List.length_cons, List.length_nil, Nat.reduceAdd, Nat.reduceSub, Array.replicate_succ, Array.replicate_zero, List.push_toArray, List.append_toArray, List.nil_append, List.cons_append]
  gi_wp2_with (refine ⟨trivial, ?_⟩; gi_at_call 48; refine (hplaced _ _).mono ?_; rintro e_ w3 ⟨rfl, rfl⟩)
  obtain ⟨W3, hW3⟩ : ∃ W3, W3 = ((((w.alloc (.cells #[.pointer (some ⟨Bp, 0, none⟩)] 57)).alloc (.cells #[.int .i64 0] 3)).alloc (.cells #[.int .i64 0] 24)).alloc (.cells #[.int .i64 0] 3)).alloc (.cells #[.slice A xs.length c] 23) := ⟨_, rfl⟩
  rw [← hW3]
  have hsz : W3.heap.size = w.heap.size + 5 := by rw [hW3]; simp
  have hB : Below w.heap.size w W3 := by rw [hW3]; exact below_alloc (below_alloc (below_alloc (below_alloc (below_alloc (Below.refl _ w) _) _) _) _) _
  have hb1 : Boxed W3 w.heap.size 57 (.pointer (some ⟨Bp, 0, none⟩)) := by rw [hW3]; exact blk_alloc (blk_alloc (blk_alloc (blk_alloc (blk_new1 _ _ _ rfl) _) _) _) _
  have hb2 : Boxed W3 (w.heap.size + 1) 3 (.int .i64 0) := by rw [hW3]; exact blk_alloc (blk_alloc (blk_alloc (blk_new1 _ _ _ (by simp)) _) _) _
  have hb3 : Boxed W3 (w.heap.size + 2) 24 (.int .i64 0) := by rw [hW3]; exact blk_alloc (blk_alloc (blk_new1 _ _ _ (by simp)) _) _
  have hb4 : Boxed W3 (w.heap.size + 3) 3 (.int .i64 0) := by rw [hW3]; exact blk_alloc (blk_new1 _ _ _ (by simp)) _
  have hb5 : W3.heap[w.heap.size + 4]? = some (.cells #[.slice A xs.length c] 23 (0, 0)) := by rw [hW3]; exact blk_new1 _ _ _ (by simp)
  have hB3 : Below n₀ w0 W3 := hb.trans (hB.mono (by omega))
  have hp3 : W3.heap[Bp]? = some (.cells #[.slice A xs.length c, .map (some M), ov] 60 (0, 0)) := (hB.block Bp hpl).trans hp
  have hM3 : Mp.Is Mp.encS Mp.encN W3 M ([] : Marks) := hM.step (hB.block M hMl)
  have hBn : Below n₀ w W3 := hB.mono (by omega)
  have hseq := placed_stopsG wfP 2 (by decide) (w.heap.size + 4) c n₀ (fun i => i = w.heap.size + 3) A xs w0 W3 hr hn0 hB3 hwf hb5 (by omega) (fun i h => by omega)
  clear hW3 hplaced hb5 hpc hp hM hb
  refine wpIn_rangeFunc_ownH rfl (by decide) (gf := 67) (lb := #[.pointer (some ⟨w.heap.size + 4, 0, none⟩)]) rfl trivial (enters_of Tryz.func67 (by kernel_rfl) rfl) hseq (fun h k => KeepT.trans h k) (KeepT.putObj (by omega)) (Below.refl _ _) (fun _ => rfl)
    (fun pre W => ((∃ m, okL (vals pre) [] = some m ∧ Mp.Is Mp.encS Mp.encN W M m) ∧ Boxed W w.heap.size 57 (.pointer (some ⟨Bp, 0, none⟩)) ∧ Boxed W (w.heap.size + 1) 3 (.int .i64 0) ∧ Boxed W (w.heap.size + 2) 24 (.int .i64 0) ∧ Boxed W (w.heap.size + 3) 3 (.int .i64 pre.length) ∧ W.heap[Bp]? = some (.cells #[.slice A xs.length c, .map (some M), ov] 60 (0, 0)) ∧ w.heap.size + 5 ≤ W.heap.size) ∧ Below n₀ w W)
    (fun cd pre W => (cd = .ret ∧ (∃ (q : List El) (z : El) (m : Marks), pre = q ++ [z] ∧ okL (vals q) [] = some m ∧ stepE m z.1 ≠ 0 ∧ Mp.Is Mp.encS Mp.encN W M m ∧ Boxed W (w.heap.size + 1) 3 (.int .i64 q.length) ∧ Boxed W (w.heap.size + 2) 24 (.int .i64 (stepE m z.1))) ∧ W.heap[Bp]? = some (.cells #[.slice A xs.length c, .map (some M), ov] 60 (0, 0)) ∧ w.heap.size + 5 ≤ W.heap.size) ∧ Below n₀ w W)
    ?own ?ownx ?start
    (fun x a' W => ∃ q : Nat, a' = { tmps := #[.pointer (some ⟨Bp, 0, none⟩), .pointer (some ⟨w.heap.size, 0, none⟩), .pointer (some ⟨w.heap.size + 1, 0, none⟩), .pointer (some ⟨w.heap.size + 2, 0, none⟩), .pointer (some ⟨w.heap.size + 3, 0, none⟩), .int .i64 x.1.1, .pointer (some ⟨q, 0, none⟩), undef, undef, .pointer (some ⟨Bp, 0, none⟩), .pointer (some ⟨Bp, 0, none⟩), .pointer (some ⟨Bp, 0, none⟩), .slice A xs.length c, .func (.func 67) #[] #[.pointer (some ⟨w.heap.size + 4, 0, none⟩)], .int .i64 x.1.1, .agg (lineC x.1.2), undef, undef, undef, undef, undef, undef, undef, undef, undef, undef, undef, undef, undef, undef, undef, undef, undef, undef, undef, undef, undef, undef, undef, undef, undef, undef, undef, undef, undef, undef, undef, undef, undef], defers := [] } ∧ W.heap[q]? = some (.cells (lineC x.1.2) 40 (0, 0)) ∧ w.heap.size + 5 ≤ q)
    (fun x a' => Own.from (fun s X Y row hs hg hr => (let ⟨q, h1, h2, h3⟩ := hs; ⟨q, h1, blk_own (β := Unit) q _ _ () X Y row h2 hg hr, h3⟩)) _) ?assign ?body ?done ?stop
  case own =>
    exact OwnFrom.and (fun s X Y row hs hg hr => (let ⟨⟨m, h1, h2⟩, h3, h4, h5, h6, h7, h8⟩ := hs; ⟨⟨m, h1, own_map hg hr (by omega) h2⟩, own_keep hg hr (by omega) h3, own_keep hg hr (by omega) h4, own_keep hg hr (by omega) h5, own_keep hg hr (by omega) h6, own_keep hg hr (by omega) h7, Nat.le_trans h8 hg.size⟩)) (ownFrom_below (by omega) (by omega))
  case ownx =>
    exact fun cd => OwnFrom.and (fun s X Y row hs hg hr => (let ⟨h0, ⟨q, z, m, h1, h2, h3, h4, h5, h6⟩, h7, h8⟩ := hs; ⟨h0, ⟨q, z, m, h1, h2, h3, own_map hg hr (by omega) h4, own_keep hg hr (by omega) h5, own_keep hg hr (by omega) h6⟩, own_keep hg hr (by omega) h7, Nat.le_trans h8 hg.size⟩)) (ownFrom_below (by omega) (by omega))
  case start => exact ⟨⟨⟨[], rfl, hM3⟩, hb1, hb2, hb3, hb4, hp3, by omega⟩, hBn⟩
  case assign =>
    intro l pre x W K hI hK
    obtain ⟨⟨⟨m, hm1, hm2⟩, hv1, hv2, hv3, hv4, hvp, hsW⟩, hBW⟩ := hI
    unfold lineC
    gi_wp2
    exact hK _ _ (KeepsFrom.of_grownBy (World.grownBy_alloc W _ none) (fun j e => by cases e)) (KeepT.of_below (below_alloc (Below.refl _ _) _) (by omega)) ⟨⟨⟨m, hm1, hm2.below (below_alloc (Below.refl _ _) _)⟩, blk_alloc hv1 _, blk_alloc hv2 _, blk_alloc hv3 _, blk_alloc hv4 _, blk_alloc hvp _, by simp; omega⟩, hBW.alloc (by omega) _⟩ ⟨W.heap.size, rfl, blk_new W _, by omega⟩
  case body =>
    rintro lp pre x a' W hl hex ⟨⟨⟨m, hm1, hm2⟩, hv1, hv2, hv3, hv4, hvp, hsW⟩, hBW⟩ ⟨q, rfl, hq, hqn⟩ hlen
    obtain ⟨x, hx⟩ := x
    have hxx := hx.2
    replace hq : W.heap[q]? = some (.cells (lineC x.2) 40 (0, 0)) := hq
    have hgood := fun n W => CallsIn.inRound lp ((callsIn_wide (n := n)).2 (good_any x.2 hxx W))
    have hstep : stepE m x = (if goodB x.2 = true then (if x.2.f0.toList = ([] : List UInt8) then (if x.1 = 4096 then 6 else 0) else (if Mp.hasL x.2.f0 m = true then 12 else 0)) else 11) := rfl
    have hq0 : W.cell? ⟨q, 0, none⟩ = some (.string x.2.f0) := (blk_cell hq 0).trans rfl
    have hq1 : W.cell? ⟨q, 1, none⟩ = some (.int .i64 x.2.f1.f0) := (blk_cell hq 1).trans rfl
    have hq2 : W.cell? ⟨q, 2, none⟩ = some (.int .i64 x.2.f1.f1) := (blk_cell hq 2).trans rfl
    have hq3 : W.cell? ⟨q, 3, none⟩ = some (.int .i64 x.2.f1.f2) := (blk_cell hq 3).trans rfl
    have hq4 : W.cell? ⟨q, 4, none⟩ = some (.int .i64 x.2.f1.f3) := (blk_cell hq 4).trans rfl
    have hq5 : W.cell? ⟨q, 5, none⟩ = some (.int .i32 x.2.f1.f4) := (blk_cell hq 5).trans rfl
    have hq6 : W.cell? ⟨q, 6, none⟩ = some (.string x.2.f2) := (blk_cell hq 6).trans rfl
    have HQ := Lib.hid hq
    have HV1 := Lib.hid hv1
    have HV2 := Lib.hid hv2
    have HV3 := Lib.hid hv3
    have HV4 := Lib.hid hv4
    have HVP := Lib.hid hvp
    have HBW := Lib.hid hBW
    have HM1 := Lib.hid hm1
    have HM2 := Lib.hid hm2
    have HST := Lib.hid hstep
    have hu28 := Tryz.underlying40
    have hmx : Tryz.prog.follows .mixedOrders = true := by kernel_rfl
    have hp40 : pre.length < 1099511627776 := by omega
    clear hq hv1 hv2 hv3 hv4 hvp hBW hm1 hm2 hstep hseq hb1 hb2 hb3 hb4 hp3 hM3 hB3 hBn hB hex hr hwf
    unfold lineC at *
    dsimp only
    have hmn : M ≠ w.heap.size + 1 ∧ M ≠ w.heap.size + 2 ∧ M ≠ w.heap.size + 3 := by omega
    have HMN1 := Lib.hid hmn.1
    have HMN2 := Lib.hid hmn.2.1
    have HMN3 := Lib.hid hmn.2.2
    clear hmn
    cases g : goodB x.2 with
    | false =>
      have HE : Hid (stepE m x = 11) := Lib.hid (by rw [HST.out, g]; rfl)
      gi_wp2_with (refine ⟨trivial, ?_⟩; gi_at_call 17; refine (hgood _ _).mono ?_; rintro e_ w2 ⟨rfl, hb2⟩; rw [g]; have hk4 : w2.cell? ⟨w.heap.size + 3, 0, none⟩ = some (.int .i64 pre.length) := (blk_cell (blk_below HV4.out hb2) 0).trans rfl; have hk2 : w2.cell? ⟨w.heap.size + 1, 0, none⟩ = some (.int .i64 0) := (blk_cell (blk_below HV2.out hb2) 0).trans rfl; have hk3 : w2.cell? ⟨w.heap.size + 2, 0, none⟩ = some (.int .i64 0) := (blk_cell (blk_below HV3.out hb2) 0).trans rfl; have hf2 := blk_frozen (blk_below HV2.out hb2) 0; have hf3 := blk_frozen (blk_below HV3.out hb2) 0; have hf4 := blk_frozen (blk_below HV4.out hb2) 0; have hs2 := hb2.size; have hq20 : w2.cell? ⟨q, 0, none⟩ = some (.string x.2.f0) := (blk_cell (blk_below HQ.out hb2) 0).trans rfl; have hp21 : w2.cell? ⟨Bp, 1, none⟩ = some (.map (some M)) := (blk_cell (blk_below HVP.out hb2) 1).trans rfl; have hk1 : w2.cell? ⟨w.heap.size, 0, none⟩ = some (.pointer (some ⟨Bp, 0, none⟩)) := (blk_cell (blk_below HV1.out hb2) 0).trans rfl)
      have hM' : Mp.Is Mp.encS Mp.encN ((w2.setCell ⟨w.heap.size + 1, 0, none⟩ (.int .i64 pre.length)).setCell ⟨w.heap.size + 2, 0, none⟩ (.int .i64 (stepE m x))) M m := ((HM2.out.below hb2).step (Below.heap_setCell _ _ _ _ HMN1.out)).step (Below.heap_setCell _ _ _ _ HMN2.out)
      rw [HE.out] at hM'
      refine ⟨((KeepsFrom.of_grownBy (grown_of_below hb2 none) (fun j e => by cases e)).trans ((KeepsOthers.setCell _ _ _).from _)).trans ((KeepsOthers.setCell _ _ _).from _), ⟨rfl, ⟨pre, ⟨x, hx⟩, m, rfl, HM1.out, (by dsimp only; rw [HE.out]; decide), hM', ((boxB HV2.out hb2).set _).other (by omega) _, (by dsimp only; rw [HE.out]; exact ((boxB HV3.out hb2).other (by omega) _).set _)⟩, ((Below.heap_setCell _ _ _ _ (by dsimp only; omega)).trans (Below.heap_setCell _ _ _ _ (by dsimp only; omega))).trans (blk_below HVP.out hb2), by simp; omega⟩, ((HBW.out.trans (hb2.mono (by omega))).setCell (p := ⟨w.heap.size + 1, 0, none⟩) (by dsimp only; omega) _).setCell (p := ⟨w.heap.size + 2, 0, none⟩) (by dsimp only; omega) _⟩
    | true =>
      by_cases hmk : x.2.f0.toList = []
      · have hmk2 : x.2.f0.toList.isEmpty = true := by rw [hmk]; rfl
        have hsm : stepM m x = m := by unfold stepM; rw [if_pos hmk]
        have HSM := Lib.hid hsm
        clear hsm
        rcases h4 : (x.1 == 4096) with _ | _
        · have h5 : ¬ x.1 = 4096 := by simpa using h4
          have HE : Hid (stepE m x = 0) := Lib.hid (by rw [HST.out, g, if_pos rfl, if_pos hmk, if_neg h5])
          clear h5
          gi_wp2_with (refine ⟨trivial, ?_⟩; gi_at_call 17; refine (hgood _ _).mono ?_; rintro e_ w2 ⟨rfl, hb2⟩; rw [g]; have hk4 : w2.cell? ⟨w.heap.size + 3, 0, none⟩ = some (.int .i64 pre.length) := (blk_cell (blk_below HV4.out hb2) 0).trans rfl; have hk2 : w2.cell? ⟨w.heap.size + 1, 0, none⟩ = some (.int .i64 0) := (blk_cell (blk_below HV2.out hb2) 0).trans rfl; have hk3 : w2.cell? ⟨w.heap.size + 2, 0, none⟩ = some (.int .i64 0) := (blk_cell (blk_below HV3.out hb2) 0).trans rfl; have hf2 := blk_frozen (blk_below HV2.out hb2) 0; have hf3 := blk_frozen (blk_below HV3.out hb2) 0; have hf4 := blk_frozen (blk_below HV4.out hb2) 0; have hs2 := hb2.size; have hq20 : w2.cell? ⟨q, 0, none⟩ = some (.string x.2.f0) := (blk_cell (blk_below HQ.out hb2) 0).trans rfl; have hp21 : w2.cell? ⟨Bp, 1, none⟩ = some (.map (some M)) := (blk_cell (blk_below HVP.out hb2) 1).trans rfl; have hk1 : w2.cell? ⟨w.heap.size, 0, none⟩ = some (.pointer (some ⟨Bp, 0, none⟩)) := (blk_cell (blk_below HV1.out hb2) 0).trans rfl)
          refine ⟨(KeepsFrom.of_grownBy (grown_of_below hb2 none) (fun j e => by cases e)).trans ((KeepsOthers.setCell _ _ _).from _), (KeepT.of_below hb2 (by omega)).trans (KeepT.set _ _ _ _ (by omega) rfl), ⟨⟨m, ?_, (HM2.out.below hb2).step (Below.heap_setCell _ _ _ _ HMN3.out)⟩, (boxB HV1.out hb2).other (by omega) _, (boxB HV2.out hb2).other (by omega) _, (boxB HV3.out hb2).other (by omega) _, ?_, (Below.heap_setCell _ _ _ _ (by dsimp only; omega)).trans (blk_below HVP.out hb2), by simp; omega⟩, (HBW.out.trans (hb2.mono (by omega))).setCell (p := ⟨w.heap.size + 3, 0, none⟩) (by dsimp only; omega) _⟩
          · have := okL_snoc x HM1.out HE.out
            rw [HSM.out] at this
            simpa [vals] using this
          · have := (boxB HV4.out hb2).set (.int .i64 ((pre.length + 1 : Nat) : Int))
            simpa using this
        · have h5 : x.1 = 4096 := by simpa using h4
          have HE : Hid (stepE m x = 6) := Lib.hid (by rw [HST.out, g, if_pos rfl, if_pos hmk, if_pos h5])
          clear h5
          gi_wp2_with (refine ⟨trivial, ?_⟩; gi_at_call 17; refine (hgood _ _).mono ?_; rintro e_ w2 ⟨rfl, hb2⟩; rw [g]; have hk4 : w2.cell? ⟨w.heap.size + 3, 0, none⟩ = some (.int .i64 pre.length) := (blk_cell (blk_below HV4.out hb2) 0).trans rfl; have hk2 : w2.cell? ⟨w.heap.size + 1, 0, none⟩ = some (.int .i64 0) := (blk_cell (blk_below HV2.out hb2) 0).trans rfl; have hk3 : w2.cell? ⟨w.heap.size + 2, 0, none⟩ = some (.int .i64 0) := (blk_cell (blk_below HV3.out hb2) 0).trans rfl; have hf2 := blk_frozen (blk_below HV2.out hb2) 0; have hf3 := blk_frozen (blk_below HV3.out hb2) 0; have hf4 := blk_frozen (blk_below HV4.out hb2) 0; have hs2 := hb2.size; have hq20 : w2.cell? ⟨q, 0, none⟩ = some (.string x.2.f0) := (blk_cell (blk_below HQ.out hb2) 0).trans rfl; have hp21 : w2.cell? ⟨Bp, 1, none⟩ = some (.map (some M)) := (blk_cell (blk_below HVP.out hb2) 1).trans rfl; have hk1 : w2.cell? ⟨w.heap.size, 0, none⟩ = some (.pointer (some ⟨Bp, 0, none⟩)) := (blk_cell (blk_below HV1.out hb2) 0).trans rfl)
          have hM' : Mp.Is Mp.encS Mp.encN ((w2.setCell ⟨w.heap.size + 1, 0, none⟩ (.int .i64 pre.length)).setCell ⟨w.heap.size + 2, 0, none⟩ (.int .i64 (stepE m x))) M m := ((HM2.out.below hb2).step (Below.heap_setCell _ _ _ _ HMN1.out)).step (Below.heap_setCell _ _ _ _ HMN2.out)
          rw [HE.out] at hM'
          refine ⟨((KeepsFrom.of_grownBy (grown_of_below hb2 none) (fun j e => by cases e)).trans ((KeepsOthers.setCell _ _ _).from _)).trans ((KeepsOthers.setCell _ _ _).from _), ⟨rfl, ⟨pre, ⟨x, hx⟩, m, rfl, HM1.out, (by dsimp only; rw [HE.out]; decide), hM', ((boxB HV2.out hb2).set _).other (by omega) _, (by dsimp only; rw [HE.out]; exact ((boxB HV3.out hb2).other (by omega) _).set _)⟩, ((Below.heap_setCell _ _ _ _ (by dsimp only; omega)).trans (Below.heap_setCell _ _ _ _ (by dsimp only; omega))).trans (blk_below HVP.out hb2), by simp; omega⟩, ((HBW.out.trans (hb2.mono (by omega))).setCell (p := ⟨w.heap.size + 1, 0, none⟩) (by dsimp only; omega) _).setCell (p := ⟨w.heap.size + 2, 0, none⟩) (by dsimp only; omega) _⟩
      · have hmk2 : x.2.f0.toList.isEmpty = false := by cases e : x.2.f0.toList with | nil => exact absurd e hmk | cons a b => rfl
        have hsm : stepM m x = Mp.putL x.2.f0 x.1 m := by unfold stepM; rw [if_neg hmk]
        have HSM := Lib.hid hsm
        clear hsm
        gi_upto_region 11 with (refine ⟨trivial, ?_⟩; gi_at_call 17; refine (hgood _ _).mono ?_; rintro e_ w2 ⟨rfl, hb2⟩; rw [g]; have hk4 : w2.cell? ⟨w.heap.size + 3, 0, none⟩ = some (.int .i64 pre.length) := (blk_cell (blk_below HV4.out hb2) 0).trans rfl; have hk2 : w2.cell? ⟨w.heap.size + 1, 0, none⟩ = some (.int .i64 0) := (blk_cell (blk_below HV2.out hb2) 0).trans rfl; have hk3 : w2.cell? ⟨w.heap.size + 2, 0, none⟩ = some (.int .i64 0) := (blk_cell (blk_below HV3.out hb2) 0).trans rfl; have hf2 := blk_frozen (blk_below HV2.out hb2) 0; have hf3 := blk_frozen (blk_below HV3.out hb2) 0; have hf4 := blk_frozen (blk_below HV4.out hb2) 0; have hs2 := hb2.size; have hq20 : w2.cell? ⟨q, 0, none⟩ = some (.string x.2.f0) := (blk_cell (blk_below HQ.out hb2) 0).trans rfl; have hp21 : w2.cell? ⟨Bp, 1, none⟩ = some (.map (some M)) := (blk_cell (blk_below HVP.out hb2) 1).trans rfl; have hk1 : w2.cell? ⟨w.heap.size, 0, none⟩ = some (.pointer (some ⟨Bp, 0, none⟩)) := (blk_cell (blk_below HV1.out hb2) 0).trans rfl)
        have hM2 := HM2.out.below hb2
        have hlk := Mp.lookup_ok_run Tryz.underlying58 Mp.key9 (encE := Mp.encN) Mp.zero3 (W := w2.drew) (hM2.step rfl) x.2.f0
        unfold Mp.encS Mp.encN at hlk
        have HM2' := Lib.hid hM2
        clear hM2
        gi_cut [7, 8] from 28 (fun v7 v8 wx => v7 = .int .i64 (Mp.getL x.2.f0 0 m) ∧ v8 = .bool (Mp.hasL x.2.f0 m) ∧ wx = w2.drew)
        case first =>
          refine Rh.start (fun wx => wx.cell? ⟨w.heap.size, 0, none⟩ = some (.pointer (some ⟨Bp, 0, none⟩)) ∧ wx.cell? ⟨Bp, 1, none⟩ = some (.map (some M)) ∧ wx.cell? ⟨q, 0, none⟩ = some (.string x.2.f0) ∧ (Instr.lookup 58 (.map (some M)) (.string x.2.f0) true).run Tryz.prog wx = .ok (.tuple #[.int .i64 (Mp.getL x.2.f0 0 m), .bool (Mp.hasL x.2.f0 m)]) wx) (fun _ => false) hmx ?_
          have hS : w2.drew.cell? ⟨w.heap.size, 0, none⟩ = some (.pointer (some ⟨Bp, 0, none⟩)) ∧ w2.drew.cell? ⟨Bp, 1, none⟩ = some (.map (some M)) ∧ w2.drew.cell? ⟨q, 0, none⟩ = some (.string x.2.f0) ∧ (Instr.lookup 58 (.map (some M)) (.string x.2.f0) true).run Tryz.prog w2.drew = .ok (.tuple #[.int .i64 (Mp.getL x.2.f0 0 m), .bool (Mp.hasL x.2.f0 m)]) w2.drew := ⟨hk1, hp21, hq20, hlk⟩
          refine Rh.take (i := 0) (v := ?_) (Rh.noDefer_of (by kernel_rfl)) (Rh.last_of (by kernel_rfl)) rfl (by kernel_rfl) (by kernel_rfl) (by kernel_rfl) (fun _ _ _ h => h) hS rfl (fun _ => rfl) ?hy0 29 rfl ?more0
          case hy0 => (rintro wx ⟨h1, h2, h3, h4⟩; go_simp; first | done | with_reducible rfl)
          simp only [Act.put, List.setIfInBounds_toArray, List.set_cons_zero, List.set_cons_succ]
          refine Rh.take (i := 1) (v := ?_) (Rh.noDefer_of (by kernel_rfl)) (Rh.last_of (by kernel_rfl)) rfl (by kernel_rfl) (by kernel_rfl) (by kernel_rfl) (fun _ _ _ h => h) hS rfl (fun _ => rfl) ?hy1 30 rfl ?more1
          case hy1 => (rintro wx ⟨h1, h2, h3, h4⟩; go_simp; first | done | with_reducible rfl)
          simp only [Act.put, List.setIfInBounds_toArray, List.set_cons_zero, List.set_cons_succ]
          refine Rh.take (i := 2) (v := ?_) (Rh.noDefer_of (by kernel_rfl)) (Rh.last_of (by kernel_rfl)) rfl (by kernel_rfl) (by kernel_rfl) (by kernel_rfl) (fun _ _ _ h => h) hS rfl (fun _ => rfl) ?hy2 31 rfl ?more2
          case hy2 => (rintro wx ⟨h1, h2, h3, h4⟩; go_simp; first | done | with_reducible rfl)
          simp only [Act.put, List.setIfInBounds_toArray, List.set_cons_zero, List.set_cons_succ]
          refine Rh.take (i := 3) (v := ?_) (Rh.noDefer_of (by kernel_rfl)) (Rh.last_of (by kernel_rfl)) rfl (by kernel_rfl) (by kernel_rfl) (by kernel_rfl) (fun _ _ _ h => h) hS rfl (fun _ => rfl) ?hy3 32 rfl ?more3
          case hy3 => (rintro wx ⟨h1, h2, h3, h4⟩; go_simp; first | done | with_reducible rfl)
          simp only [Act.put, List.setIfInBounds_toArray, List.set_cons_zero, List.set_cons_succ]
          refine Rh.take (i := 4) (v := ?_) (Rh.noDefer_of (by kernel_rfl)) (Rh.last_of (by kernel_rfl)) rfl (by kernel_rfl) (by kernel_rfl) (by kernel_rfl) (fun _ _ _ h => h) hS rfl (fun _ => rfl) ?hy4 33 rfl ?more4
          case hy4 => (rintro wx ⟨h1, h2, h3, h4⟩; go_simp; first | done | with_reducible rfl)
          simp only [Act.put, List.setIfInBounds_toArray, List.set_cons_zero, List.set_cons_succ]
          refine Rh.take (i := 5) (v := ?_) (Rh.noDefer_of (by kernel_rfl)) (Rh.last_of (by kernel_rfl)) rfl (by kernel_rfl) (by kernel_rfl) (by kernel_rfl) (fun _ _ _ h => h) hS rfl (fun _ => rfl) ?hy5 34 rfl ?more5
          case hy5 => (rintro wx ⟨h1, h2, h3, h4⟩; go_simp; first | done | with_reducible rfl)
          simp only [Act.put, List.setIfInBounds_toArray, List.set_cons_zero, List.set_cons_succ]
          refine Rh.take (i := 6) (v := ?_) (Rh.noDefer_of (by kernel_rfl)) (Rh.last_of (by kernel_rfl)) rfl (by kernel_rfl) (by kernel_rfl) (by kernel_rfl) (fun _ _ _ h => h) hS rfl (fun _ => rfl) ?hy6 35 rfl ?more6
          case hy6 => (rintro wx ⟨h1, h2, h3, h4⟩; go_simp; first | done | with_reducible rfl)
          simp only [Act.put, List.setIfInBounds_toArray, List.set_cons_zero, List.set_cons_succ]
          refine Rh.take (i := 7) (v := ?_) (Rh.noDefer_of (by kernel_rfl)) (Rh.last_of (by kernel_rfl)) rfl (by kernel_rfl) (by kernel_rfl) (by kernel_rfl) (fun _ _ _ h => h) hS rfl (fun _ => rfl) ?hy7 28 rfl ?more7
          case hy7 => (rintro wx ⟨h1, h2, h3, h4⟩; go_simp; first | done | with_reducible rfl)
          simp only [Act.put, List.setIfInBounds_toArray, List.set_cons_zero, List.set_cons_succ]
          refine Rh.take (i := 8) (v := ?_) (Rh.noDefer_of (by kernel_rfl)) (Rh.last_of (by kernel_rfl)) rfl (by kernel_rfl) (by kernel_rfl) (by kernel_rfl) (fun _ _ _ h => h) hS rfl (fun _ => rfl) ?hy8 36 rfl ?more8
          case hy8 => (rintro wx ⟨h1, h2, h3, h4⟩; go_simp; first | done | with_reducible rfl)
          simp only [Act.put, List.setIfInBounds_toArray, List.set_cons_zero, List.set_cons_succ]
          refine Rh.take (i := 9) (v := ?_) (Rh.noDefer_of (by kernel_rfl)) (Rh.last_of (by kernel_rfl)) rfl (by kernel_rfl) (by kernel_rfl) (by kernel_rfl) (fun _ _ _ h => h) hS rfl (fun _ => rfl) ?hy9 37 rfl ?more9
          case hy9 => (rintro wx ⟨h1, h2, h3, h4⟩; go_simp; first | done | with_reducible rfl)
          simp only [Act.put, List.setIfInBounds_toArray, List.set_cons_zero, List.set_cons_succ]
          refine Rh.take (i := 10) (v := ?_) (Rh.noDefer_of (by kernel_rfl)) (Rh.last_of (by kernel_rfl)) rfl (by kernel_rfl) (by kernel_rfl) (by kernel_rfl) (fun _ _ _ h => h) hS rfl (fun _ => rfl) ?hy10 7 rfl ?more10
          case hy10 => (rintro wx ⟨h1, h2, h3, h4⟩; go_simp; first | done | with_reducible rfl)
          simp only [Act.put, List.setIfInBounds_toArray, List.set_cons_zero, List.set_cons_succ]
          refine Rh.take (i := 11) (v := ?_) (Rh.noDefer_of (by kernel_rfl)) (Rh.last_of (by kernel_rfl)) rfl (by kernel_rfl) (by kernel_rfl) (by kernel_rfl) (fun _ _ _ h => h) hS rfl (fun _ => rfl) ?hy11 8 rfl ?more11
          case hy11 => (rintro wx ⟨h1, h2, h3, h4⟩; go_simp; first | done | with_reducible rfl)
          simp only [Act.put, List.setIfInBounds_toArray, List.set_cons_zero, List.set_cons_succ]
          refine Rh.done (by kernel_rfl) ?_ _
          gi_wp2_with fail
          gi_meet
          case rel => exact ⟨rfl, rfl, rfl⟩
        case rest =>
          obtain ⟨rfl, rfl, rfl⟩ := hcut
          clear hlk
          cases hh : Mp.hasL x.2.f0 m with
          | true =>
            have HE : Hid (stepE m x = 12) := Lib.hid (by rw [HST.out, g, if_pos rfl, if_neg hmk, if_pos hh])
            gi_wp2
            have hM' : Mp.Is Mp.encS Mp.encN (((w2.setCell ⟨w.heap.size + 1, 0, none⟩ (.int .i64 pre.length)).setCell ⟨w.heap.size + 2, 0, none⟩ (.int .i64 12)).drew) M m := ((HM2'.out.step (Below.heap_setCell _ _ _ _ HMN1.out)).step (Below.heap_setCell _ _ _ _ HMN2.out)).step rfl
            refine ⟨(((KeepsFrom.of_grownBy (grown_of_below hb2 none) (fun j e => by cases e)).trans ((KeepsOthers.setCell _ _ _).from _)).trans ((KeepsOthers.setCell _ _ _).from _)).trans (KeepsFrom.of_grownBy (grown_of_below (below_drew1 (Below.refl _ _)) none) (fun j e => by cases e)), ⟨rfl, ⟨pre, ⟨x, hx⟩, m, rfl, HM1.out, (by dsimp only; rw [HE.out]; decide), hM', ((boxB HV2.out hb2).set _).other (by omega) _, (by dsimp only; rw [HE.out]; exact ((boxB HV3.out hb2).other (by omega) _).set _)⟩, ((Below.heap_setCell _ _ _ _ (by dsimp only; omega)).trans (Below.heap_setCell _ _ _ _ (by dsimp only; omega))).trans (blk_below HVP.out hb2), by simp; omega⟩, below_drew1 (((HBW.out.trans (hb2.mono (by omega))).setCell (p := ⟨w.heap.size + 1, 0, none⟩) (by dsimp only; omega) _).setCell (p := ⟨w.heap.size + 2, 0, none⟩) (by dsimp only; omega) _)⟩
          | false =>
            have HE : Hid (stepE m x = 0) := Lib.hid (by rw [HST.out, g, if_pos rfl, if_neg hmk, if_neg (by rw [hh]; decide)])
            obtain ⟨es, clk, hup, hmm⟩ := Mp.mapUpdate_runs Tryz.underlying58 Mp.key9 (encE := Mp.encN) HM2'.out x.2.f0 x.1
            replace hup := hup w2.drew.drew rfl
            unfold Mp.encS Mp.encN at hup
            have HMM := Lib.hid hmm
            clear hmm
            gi_wp2
            refine Rh.start (fun wx => wx.cell? ⟨w.heap.size, 0, none⟩ = some (.pointer (some ⟨Bp, 0, none⟩)) ∧ wx.cell? ⟨Bp, 1, none⟩ = some (.map (some M)) ∧ wx.cell? ⟨q, 0, none⟩ = some (.string x.2.f0)) (fun i => i == 7) hmx ?_
            have hS : w2.drew.drew.cell? ⟨w.heap.size, 0, none⟩ = some (.pointer (some ⟨Bp, 0, none⟩)) ∧ w2.drew.drew.cell? ⟨Bp, 1, none⟩ = some (.map (some M)) ∧ w2.drew.drew.cell? ⟨q, 0, none⟩ = some (.string x.2.f0) := ⟨hk1, hp21, hq20⟩
            refine Rh.take (i := 0) (v := ?_) (Rh.noDefer_of (by kernel_rfl)) (Rh.last_of (by kernel_rfl)) rfl (by kernel_rfl) (by kernel_rfl) (by kernel_rfl) (fun _ _ _ h => h) hS rfl (fun _ => rfl) ?hz0 40 rfl ?mone0
            case hz0 => (rintro wx ⟨h1, h2, h3⟩; go_simp; first | done | with_reducible rfl)
            simp only [Act.put, List.setIfInBounds_toArray, List.set_cons_zero, List.set_cons_succ]
            refine Rh.take (i := 1) (v := ?_) (Rh.noDefer_of (by kernel_rfl)) (Rh.last_of (by kernel_rfl)) rfl (by kernel_rfl) (by kernel_rfl) (by kernel_rfl) (fun _ _ _ h => h) hS rfl (fun _ => rfl) ?hz1 41 rfl ?mone1
            case hz1 => (rintro wx ⟨h1, h2, h3⟩; go_simp; first | done | with_reducible rfl)
            simp only [Act.put, List.setIfInBounds_toArray, List.set_cons_zero, List.set_cons_succ]
            refine Rh.take (i := 2) (v := ?_) (Rh.noDefer_of (by kernel_rfl)) (Rh.last_of (by kernel_rfl)) rfl (by kernel_rfl) (by kernel_rfl) (by kernel_rfl) (fun _ _ _ h => h) hS rfl (fun _ => rfl) ?hz2 42 rfl ?mone2
            case hz2 => (rintro wx ⟨h1, h2, h3⟩; go_simp; first | done | with_reducible rfl)
            simp only [Act.put, List.setIfInBounds_toArray, List.set_cons_zero, List.set_cons_succ]
            refine Rh.take (i := 3) (v := ?_) (Rh.noDefer_of (by kernel_rfl)) (Rh.last_of (by kernel_rfl)) rfl (by kernel_rfl) (by kernel_rfl) (by kernel_rfl) (fun _ _ _ h => h) hS rfl (fun _ => rfl) ?hz3 43 rfl ?mone3
            case hz3 => (rintro wx ⟨h1, h2, h3⟩; go_simp; first | done | with_reducible rfl)
            simp only [Act.put, List.setIfInBounds_toArray, List.set_cons_zero, List.set_cons_succ]
            refine Rh.take (i := 4) (v := ?_) (Rh.noDefer_of (by kernel_rfl)) (Rh.last_of (by kernel_rfl)) rfl (by kernel_rfl) (by kernel_rfl) (by kernel_rfl) (fun _ _ _ h => h) hS rfl (fun _ => rfl) ?hz4 44 rfl ?mone4
            case hz4 => (rintro wx ⟨h1, h2, h3⟩; go_simp; first | done | with_reducible rfl)
            simp only [Act.put, List.setIfInBounds_toArray, List.set_cons_zero, List.set_cons_succ]
            refine Rh.take (i := 5) (v := ?_) (Rh.noDefer_of (by kernel_rfl)) (Rh.last_of (by kernel_rfl)) rfl (by kernel_rfl) (by kernel_rfl) (by kernel_rfl) (fun _ _ _ h => h) hS rfl (fun _ => rfl) ?hz5 45 rfl ?mone5
            case hz5 => (rintro wx ⟨h1, h2, h3⟩; go_simp; first | done | with_reducible rfl)
            simp only [Act.put, List.setIfInBounds_toArray, List.set_cons_zero, List.set_cons_succ]
            refine Rh.take (i := 6) (v := ?_) (Rh.noDefer_of (by kernel_rfl)) (Rh.last_of (by kernel_rfl)) rfl (by kernel_rfl) (by kernel_rfl) (by kernel_rfl) (fun _ _ _ h => h) hS rfl (fun _ => rfl) ?hz6 46 rfl ?mone6
            case hz6 => (rintro wx ⟨h1, h2, h3⟩; go_simp; first | done | with_reducible rfl)
            simp only [Act.put, List.setIfInBounds_toArray, List.set_cons_zero, List.set_cons_succ]
            refine Rh.one (i := 7) rfl (by kernel_rfl) rfl ?_
            go_simp
            have hMo : ∃ es0 c0, w2.drew.drew.heap[M]? = some (.map es0 c0) := (let ⟨es0, c0, h, _⟩ := HM2'.out; ⟨es0, c0, h⟩)
            obtain ⟨es0, c0, hMo⟩ := hMo
            have hb3 : Below W.heap.size W w2.drew.drew := below_drew1 (below_drew1 hb2)
            have e1 : Boxed (w2.drew.drew.putObj M (.map es clk)) w.heap.size 57 (.pointer (some ⟨Bp, 0, none⟩)) := put_blk (by omega) (boxB HV1.out hb3)
            have e2 : Boxed (w2.drew.drew.putObj M (.map es clk)) (w.heap.size + 1) 3 (.int .i64 0) := put_blk HMN1.out (boxB HV2.out hb3)
            have e3 : Boxed (w2.drew.drew.putObj M (.map es clk)) (w.heap.size + 2) 24 (.int .i64 0) := put_blk HMN2.out (boxB HV3.out hb3)
            have e4 : Boxed (w2.drew.drew.putObj M (.map es clk)) (w.heap.size + 3) 3 (.int .i64 pre.length) := put_blk HMN3.out (boxB HV4.out hb3)
            have ep : (w2.drew.drew.putObj M (.map es clk)).heap[Bp]? = some (.cells #[.slice A xs.length c, .map (some M), ov] 60 (0, 0)) := put_blk (fun e => by subst e; have := blk_below HVP.out hb3; rw [hMo] at this; cases this) (blk_below HVP.out hb3)
            have eq : (w2.drew.drew.putObj M (.map es clk)).heap[q]? = some (.cells (lineC x.2) 40 (0, 0)) := put_blk (by omega) (blk_below HQ.out hb3)
            have eM : Mp.Is Mp.encS Mp.encN (w2.drew.drew.putObj M (.map es clk)) M (Mp.putL x.2.f0 x.1 m) := HMM.out _ (World.putObj_heap_same (Array.getElem?_eq_some_iff.1 hMo).1)
            have eB : Below n₀ w (w2.drew.drew.putObj M (.map es clk)) := (below_drew1 (below_drew1 (HBW.out.trans (hb2.mono (by omega))))).grown (grownBy_putObj' _ M _) (by simp; omega) (fun k e => by cases e; omega)
            have eK : KeepsFrom W3.heap.size W (w2.drew.drew.putObj M (.map es clk)) := ((KeepsFrom.of_grownBy (grown_of_below hb2 none) (fun j e => by cases e)).trans (KeepsFrom.of_grownBy (grown_of_below (below_drew1 (below_drew1 (Below.refl _ _))) none) (fun j e => by cases e))).trans (KeepsFrom.of_grownBy (grownBy_putObj' _ M _) (fun j e => by cases e; omega))
            have eT : KeepT n₀ (fun i => i = w.heap.size + 3) W (w2.drew.drew.putObj M (.map es clk)) := (((KeepT.of_below hb2 (by omega)).trans (KeepT.drew _)).trans (KeepT.drew _)).trans (KeepT.put _ M _ hMn hMo rfl)
            have eS : (w2.drew.drew.putObj M (.map es clk)).heap.size = w2.heap.size := by simp
            refine Rh.done (by kernel_rfl) ?_ _
            clear hup hS hk1 hk2 hk3 hk4 hf2 hf3 hf4 hp21 hq20 hMo HMM
            generalize w2.drew.drew.putObj M (.map es clk) = W5 at *
            have i4 := e4.cell
            have j4 := e4.frozen
            have E1 := Lib.hid e1
            have E2 := Lib.hid e2
            have E3 := Lib.hid e3
            have E4 := Lib.hid e4
            have EP := Lib.hid ep
            have EM := Lib.hid eM
            have EB := Lib.hid eB
            have EK := Lib.hid eK
            have ET := Lib.hid eT
            clear e1 e2 e3 e4 ep eq eM eB eK eT hb2 hb3
            gi_wp2
            refine ⟨EK.out.trans ((KeepsOthers.setCell _ _ _).from _), ET.out.trans (KeepT.set _ _ _ _ (by omega) rfl), ⟨⟨Mp.putL x.2.f0 x.1 m, ?_, EM.out.step (Below.heap_setCell _ _ _ _ HMN3.out)⟩, E1.out.other (by omega) _, E2.out.other (by omega) _, E3.out.other (by omega) _, ?_, (Below.heap_setCell _ _ _ _ (by dsimp only; omega)).trans EP.out, by simp; omega⟩, EB.out.setCell (p := ⟨w.heap.size + 3, 0, none⟩) (by dsimp only; omega) _⟩
            · have := okL_snoc x HM1.out HE.out
              rw [HSM.out] at this
              simpa [vals] using this
            · have := E4.out.set (.int .i64 ((pre.length + 1 : Nat) : Int))
              simpa using this
  case done =>
    rintro D ys W hD hS ⟨⟨⟨m, hm1, hm2⟩, hv1, hv2, hv3, hv4, hvp, hsW⟩, hBW⟩ hK
    have hS' : vals ys = placedL xs 0 := hS
    rw [hS'] at hm1
    have hfin := lookR_ok 0 hm1
    have hc2 := hv2.cell
    have hf2 := hv2.frozen
    have hc3 := hv3.cell
    have hf3 := hv3.frozen
    have hDM : D ≠ M := by omega
    have hDp : D ≠ Bp := by omega
    have HFIN := Lib.hid hfin
    have HVP := Lib.hid hvp
    have hM' : Mp.Is Mp.encS Mp.encN ((W.setCell ⟨w.heap.size + 1, 0, none⟩ (.int .i64 0)).setCell ⟨w.heap.size + 2, 0, none⟩ (.int .i64 0)) M m := (hm2.step (Below.heap_setCell _ _ _ _ (by dsimp only; omega))).step (Below.heap_setCell _ _ _ _ (by dsimp only; omega))
    have HM' := Lib.hid hM'
    clear hfin hm1 hm2 hS hS' hvp hM'
    gi_wp2
    have hw1 : Boxed ((W.setCell ⟨w.heap.size + 1, 0, none⟩ (.int .i64 0)).setCell ⟨w.heap.size + 2, 0, none⟩ (.int .i64 0)) (w.heap.size + 1) 3 (.int .i64 0) := (hv2.set _).other (by omega) _
    have hw2 : Boxed ((W.setCell ⟨w.heap.size + 1, 0, none⟩ (.int .i64 0)).setCell ⟨w.heap.size + 2, 0, none⟩ (.int .i64 0)) (w.heap.size + 2) 24 (.int .i64 0) := (hv3.other (by omega) _).set _
    have hK' := ((KeepsOthers.setCell W ⟨w.heap.size + 1, 0, none⟩ (.int .i64 0)).trans (KeepsOthers.setCell _ ⟨w.heap.size + 2, 0, none⟩ (.int .i64 0))).same D _ hK rfl
    have hB' := (hBW.setCell (p := ⟨w.heap.size + 1, 0, none⟩) (by dsimp only; omega) (.int .i64 0)).setCell (p := ⟨w.heap.size + 2, 0, none⟩) (by dsimp only; omega) (.int .i64 0)
    refine ⟨by simp, .inl ⟨_, _, rfl, run_takeDeferred hK', ?_⟩⟩
    have hc5 := cell_kept hw1.cell (grownBy_putObj' _ D (.deferred none)) (fun r e => by cases e; exact ⟨_, hK', rfl⟩)
    have hc6 := cell_kept hw2.cell (grownBy_putObj' _ D (.deferred none)) (fun r e => by cases e; exact ⟨_, hK', rfl⟩)
    refine ⟨.tuple #[.int .i64 0, .int .i64 0], ?_, by rw [HFIN.out], hB'.grown (grownBy_putObj' _ D _) (by simp; omega) (fun k e => by cases e; omega), by simp; omega, ?_, by rw [HFIN.out]; exact HM'.out.step (World.putObj_heap_other (Ne.symm hDM))⟩
    · simp [results, Tryz.f22, go_sem, hc5, hc6]
    · rw [World.putObj_heap_other (Ne.symm hDp), Below.heap_setCell _ _ _ _ (by dsimp only; omega), Below.heap_setCell _ _ _ _ (by dsimp only; omega), HVP.out]
  case stop =>
    rintro D cd pre W hD hpre ⟨⟨rfl, ⟨q, z, m, rfl, hm1, hst, hm2, hv2, hv3⟩, hvp, hsW⟩, hBW⟩ hK
    have hpre' : vals (q ++ [z]) <+: placedL xs 0 := hpre
    obtain ⟨t, ht⟩ := hpre'
    have hfin := lookR_bad (b := t) 0 z.1 hm1 hst
    have e1 : placedL xs 0 = vals q ++ z.1 :: t := by rw [← ht]; simp [vals]
    rw [← e1] at hfin
    have hlq : (vals q).length = q.length := by simp [vals]
    rw [Nat.zero_add, hlq] at hfin
    have hDM : D ≠ M := by omega
    have hDp : D ≠ Bp := by omega
    have HFIN := Lib.hid hfin
    have HVP := Lib.hid hvp
    have HM' := Lib.hid hm2
    clear hfin hm1 hm2 hpre hvp ht e1 hlq
    gi_wp2
    refine ⟨by simp, .inl ⟨_, _, rfl, run_takeDeferred hK, ?_⟩⟩
    have hc5 := cell_kept hv2.cell (grownBy_putObj' _ D (.deferred none)) (fun r e => by cases e; exact ⟨_, hK, rfl⟩)
    have hc6 := cell_kept hv3.cell (grownBy_putObj' _ D (.deferred none)) (fun r e => by cases e; exact ⟨_, hK, rfl⟩)
    refine ⟨.tuple #[.int .i64 q.length, .int .i64 (stepE m z.1)], ?_, by rw [HFIN.out], hBW.grown (grownBy_putObj' _ D _) (by omega) (fun k e => by cases e; omega), by simp; omega, ?_, by rw [HFIN.out]; exact HM'.out.step (World.putObj_heap_other (Ne.symm hDM))⟩
    · simp [results, Tryz.f22, go_sem, hc5, hc6]
    · rw [World.putObj_heap_other (Ne.symm hDp), HVP.out]
end Go.Proofs.YtbelnkdbghggmaaGreatDoor.X
