/- Texts of this claim that stand one behind another, merged. -/
import Derived.Test.YtbelnkdbghggmaaGreatDoorMg9
import Derived.Test.YtbelnkdbghggmaaGreatDoorMg2
import Derived.Test.YtbelnkdbghggmaaGreatDoorMg7
import Derived.Test.YtbelnkdbghggmaaGreatDoorMg8
import Derived.Test.YtbelnkdbghggmaaGreatDoorMg6
namespace Go.Proofs.YtbelnkdbghggmaaGreatDoor.X
open Go.RowKit Go.Proofs.YtbelnkdbghggmaaGreatDoorW.PrintWords
set_option linter.unusedVariables false
set_option linter.unusedSimpArgs false
open Classical in
/-- The line of a text, if there is one. -/
noncomputable def findL (t : ByteArray) : Option S40 := if h : ∃ x : S40, wfX x ∧ goodB x = true ∧ lineT x = t.data.toList then some h.choose else none
theorem find_some {t : ByteArray} {x : S40} (h : findL t = some x) : wfX x ∧ goodB x = true ∧ lineT x = t.data.toList := by
  unfold findL at h
  split at h
  · rename_i hx
    rw [← Option.some.inj h]
    exact hx.choose_spec
  · cases h
theorem find_none {t : ByteArray} (h : findL t = none) (x : S40) (hw : wfX x) (hg : goodB x = true) : lineT x ≠ t.data.toList := by
  intro hl
  unfold findL at h
  rw [dif_pos ⟨x, hw, hg, hl⟩] at h
  cases h
theorem tell_inj {x y : S40} (h : tellR x true = tellR y true) : x = y := by
  have := congrArg lineOf h
  rwa [lineOf_tell, lineOf_tell] at this
theorem post_find {t : ByteArray} {r : RS} (h : Post t r) : (∀ x, findL t = some x → r = tellR x true) ∧ (findL t = none → okOf r = false) := by
  refine ⟨fun x hx => h.2 x (find_some hx).1 (find_some hx).2.1 (find_some hx).2.2, fun hn => ?_⟩
  cases hok : okOf r with
  | false => rfl
  | true => exact absurd (h.1 hok).2.2 (find_none hn _ (h.1 hok).1 (h.1 hok).2.1)
theorem find_of {x : S40} (hw : wfX x) (hg : goodB x = true) : findL (toB (lineT x)) = some x := by
  have hs := line_size hw hg
  obtain ⟨r, _, hp⟩ := asm_read_post 40 (Nat.le_refl _) (toB (lineT x)) (by rw [size_data, toB_data]; omega)
  cases hf : findL (toB (lineT x)) with
  | none => exact absurd (toB_data _).symm (find_none hf x hw hg)
  | some y =>
    have h1 := (post_find hp).1 y hf
    have h2 := hp.2 x hw hg (toB_data _).symm
    rw [h1] at h2
    rw [tell_inj h2]
/-- What stands ahead of the first byte 10, and behind it. -/
def nlA (l : List UInt8) : List UInt8 := l.takeWhile (fun c => c != 10)
def nlR (l : List UInt8) : List UInt8 := (l.dropWhile (fun c => c != 10)).drop 1
theorem span10 : ∀ l : List UInt8, ∃ r, l = nlA l ++ r ∧ (10 : UInt8) ∉ nlA l ∧ ((r = [] ∧ nlR l = []) ∨ r = 10 :: nlR l)
  | [] => ⟨[], rfl, by simp [nlA], .inl ⟨rfl, rfl⟩⟩
  | c :: l => by
    by_cases h : c = 10
    · subst h
      exact ⟨10 :: l, by simp [nlA], by simp [nlA], .inr (by simp [nlR])⟩
    · obtain ⟨r, h1, h2, h3⟩ := span10 l
      have ha : nlA (c :: l) = c :: nlA l := by simp [nlA, h]
      have hr : nlR (c :: l) = nlR l := by simp [nlR, h]
      rw [ha, hr]
      exact ⟨r, by rw [List.cons_append, ← h1], fun k => (List.mem_cons.1 k).elim (fun e => h e.symm) h2, h3⟩
theorem nl_none {l : List UInt8} (h : (10 : UInt8) ∉ l) : nlA l = l ∧ nlR l = [] := by
  obtain ⟨r, h1, h2, h3⟩ := span10 l
  rcases h3 with ⟨rfl, h4⟩ | h4
  · rw [List.append_nil] at h1
    exact ⟨h1.symm, h4⟩
  · exact absurd (by rw [h1, h4]; simp) h
theorem nl_at {a b : List UInt8} (h : (10 : UInt8) ∉ a) : nlA (a ++ 10 :: b) = a ∧ nlR (a ++ 10 :: b) = b := by
  induction a with
  | nil => simp [nlA, nlR]
  | cons c a ih =>
    have hc : c ≠ 10 := fun e => h (by rw [e]; exact List.mem_cons_self)
    have ih := ih fun k => h (List.mem_cons_of_mem _ k)
    have ha : nlA (c :: (a ++ 10 :: b)) = c :: nlA (a ++ 10 :: b) := by simp [nlA, hc]
    have hr : nlR (c :: (a ++ 10 :: b)) = nlR (a ++ 10 :: b) := by simp [nlR, hc]
    rw [List.cons_append, ha, hr, ih.1, ih.2]
    exact ⟨rfl, rfl⟩
theorem nl_len {l : List UInt8} (h : l ≠ []) : (nlR l).length < l.length ∧ (nlA l).length ≤ l.length := by
  obtain ⟨r, h1, _, h3⟩ := span10 l
  have h2 := congrArg List.length h1
  rw [List.length_append] at h2
  have hp : 0 < l.length := List.length_pos_iff.2 h
  rcases h3 with ⟨rfl, h4⟩ | h4
  · rw [h4]; simp only [List.length_nil] at *; omega
  · rw [h4, List.length_cons] at h2; omega
/-- The lines of a text. -/
noncomputable def readS : Nat → List UInt8 → List S40 → Nat → List S40 × Int × Int
  | 0, _, acc, _ => (acc, 0, 0)
  | n + 1, s, acc, m => if s = [] then (acc, 0, 0) else if nlA s = [] then readS n (nlR s) acc (m + 1) else match findL (toB (nlA s)) with
    | some x => readS n (nlR s) (acc ++ [x]) (m + 1)
    | none => ([], (m : Int), 11)
theorem aRead (n : Nat) : ∀ (s : ByteArray) (acc : List S40) (m k : Nat), s.size ≤ n → s.size ≤ 100000 → acc.length + s.size ≤ 200000 → m + s.size ≤ 200000 → s.size + 50 ≤ k → asm_Read.l0 k s acc (m : Int) = some (readS (n + 1) s.data.toList acc m) := by
  induction n with
  | zero =>
    intro s acc m k hn hs ha hm hk
    obtain ⟨k, rfl⟩ : ∃ q, k = q + 1 := ⟨k - 1, by omega⟩
    have he : s.data.toList = [] := List.length_eq_zero_iff.1 (by rw [← size_data]; omega)
    simp only [asm_Read.l0, readS]
    rw [if_pos ((toList_iff s).2 he), if_pos he]
  | succ n ih =>
    intro s acc m k hn hs ha hm hk
    obtain ⟨k, rfl⟩ : ∃ q, k = q + 1 := ⟨k - 1, by omega⟩
    rw [asm_Read.l0, readS]
    by_cases he : s.data.toList = []
    · rw [if_pos ((toList_iff s).2 he), if_pos he]
    · have hne : ¬ s.toList = ([] : List UInt8) := fun h => he ((toList_iff s).1 h)
      have hl := nl_len he
      rw [← size_data] at hl
      have hcut : ∃ f, strings_Cut.f s (⟨#[10]⟩ : ByteArray) = some (toB (nlA s.data.toList), toB (nlR s.data.toList), f) := by
        unfold strings_Cut.f cutB
        rw [if_pos (by omega), show (⟨#[10]⟩ : ByteArray).data.toList = [10] from rfl]
        obtain ⟨r, h1, h2, h3⟩ := span10 s.data.toList
        rcases h3 with ⟨rfl, h4⟩ | h4
        · have hno : (10 : UInt8) ∉ s.data.toList := by rw [h1, List.append_nil]; exact h2
          have hnl := nl_none hno
          rw [cut_none 10 _ hno, hnl.1, hnl.2]
          exact ⟨false, rfl⟩
        · have hca := cut_at 10 (nlA s.data.toList) (nlR s.data.toList) h2
          rw [← h4, ← h1] at hca
          rw [hca]
          exact ⟨true, rfl⟩
      obtain ⟨f, hcut⟩ := hcut
      have hzA : (toB (nlA s.data.toList)).size = (nlA s.data.toList).length := rfl
      have hzR : (toB (nlR s.data.toList)).size = (nlR s.data.toList).length := rfl
      have hnext : wrap64 ((m : Int) + 1) = ((m + 1 : Nat) : Int) := by rw [w64 _ (by omega) (by omega)]; omega
      rw [if_neg hne, if_neg he, hcut]
      simp only [Option.bind_some]
      rw [hnext]
      by_cases ht : nlA s.data.toList = []
      · rw [if_pos ((toList_iff _).2 ht), if_pos ht]
        exact ih (toB (nlR s.data.toList)) acc (m + 1) k (by omega) (by omega) (by omega) (by omega) (by omega)
      · have htn : ¬ (toB (nlA s.data.toList)).toList = ([] : List UInt8) := fun h => ht ((toList_iff _).1 h)
        obtain ⟨r, hr, hp⟩ := asm_read_post k (by omega) (toB (nlA s.data.toList)) (by omega)
        rw [if_neg htn, if_neg ht, hr]
        simp only [Option.bind_some]
        cases hf : findL (toB (nlA s.data.toList)) with
        | some x =>
          have hrx := (post_find hp).1 x hf
          rw [hrx]
          show (if true = true then (if acc.length < 1954687338268 then asm_Read.l0 k (toB (nlR s.data.toList)) (acc ++ [x]) ((m + 1 : Nat) : Int) else none) else some (([] : List S40), (m : Int), 11)) = _
          rw [if_pos rfl, if_pos (by omega)]
          exact ih (toB (nlR s.data.toList)) (acc ++ [x]) (m + 1) k (by omega) (by omega) (by rw [List.length_append, List.length_cons, List.length_nil]; omega) (by omega) (by omega)
        | none =>
          have hrn : r.2.2.2.2.2.2.2 = false := (post_find hp).2 hf
          rw [hrn, if_neg (by decide)]
theorem asm_Read_val (K : Nat) (s : ByteArray) (hs : s.size ≤ 100000) (hK : s.size + 50 ≤ K) : asm_Read.f K s = some (readS (s.size + 1) s.data.toList [] 0) := by
  unfold asm_Read.f
  exact aRead s.size s [] 0 K (Nat.le_refl _) hs (by simp only [List.length_nil]; omega) (by omega) hK
end Go.Proofs.YtbelnkdbghggmaaGreatDoor.X
namespace Go.Proofs.YtbelnkdbghggmaaGreatDoor.X
open Go.RowKit Go.Proofs.YtbelnkdbghggmaaGreatDoorW.PrintWords
set_option linter.unusedVariables false
set_option linter.unusedSimpArgs false
/-- Lines are the same as they are. -/
theorem same_l (l : List S40) (hl : l.length ≤ 1000000) : ∀ (d i k : Nat), i + d = l.length → d < k → curtilageref10_Same.l0 k l l (i : Int) = some true
  | 0, i, k, hi, hk => by
    obtain ⟨k, rfl⟩ : ∃ q, k = q + 1 := ⟨k - 1, by omega⟩
    rw [curtilageref10_Same.l0, if_neg (by omega)]
  | d + 1, i, k, hi, hk => by
    obtain ⟨k, rfl⟩ : ∃ q, k = q + 1 := ⟨k - 1, by omega⟩
    rw [curtilageref10_Same.l0, if_pos (by omega), if_pos (by omega), if_pos (by omega)]
    simp only [beq_self_eq_true, Bool.not_true, Bool.or_self, Bool.false_eq_true, if_false]
    rw [w64 _ (by omega) (by omega)]
    exact same_l l hl d (i + 1) k (by omega) (by omega)
theorem same_self (K : Nat) (l : List S40) (hl : l.length ≤ 1000000) (hK : l.length < K) : curtilageref10_Same.f K l l = some true := by
  unfold curtilageref10_Same.f
  rw [if_pos rfl]
  exact same_l l hl l.length 0 K (by omega) hK
end Go.Proofs.YtbelnkdbghggmaaGreatDoor.X
namespace Go.Proofs.YtbelnkdbghggmaaGreatDoor.X
open Go.RowKit Go.Proofs.YtbelnkdbghggmaaGreatDoorW.PrintWords Go.Proofs.YtbelnkdbghggmaaGreatDoorW.PrintLast

set_option linter.unusedVariables false
set_option linter.unusedSimpArgs false

/-! ### curtilagelaw10_AsmBack: function 4 -/
mutual
def curtilagelaw10_AsmBack.j0 : Nat → List (S40) → ByteArray → Bool → Option (Bool)
  | 0, _, _, _ => none
  | k + 1, x0, x1, x21 => if x21 = true then ((curtilagelaw10_awake.f k).bind fun t246 => (some t246)) else ((asm_Read.f k x1).bind fun bt247 => (if bt247.2.2 = 0 then ((asm_Text.f bt247.1).bind fun t252 => ((asm_Read.f k t252).bind fun bt253 => (if bt253.2.2 = 0 then ((curtilageref10_Same.f k bt253.1 bt247.1).bind fun t258 => (if t258 = true then (curtilagelaw10_AsmBack.j1 k x0) else (some false))) else (some false)))) else (curtilagelaw10_AsmBack.j1 k x0)))
def curtilagelaw10_AsmBack.j1 : Nat → List (S40) → Option (Bool)
  | 0, _ => none
  | k + 1, x0 => (curtilageref10_Good.f k x0).bind fun t259 => (if t259 = true then ((asm_Text.f x0).bind fun t262 => ((asm_Read.f k t262).bind fun bt263 => (if bt263.2.2 = 0 then ((curtilageref10_Same.f k bt263.1 x0).bind fun t268 => (if t268 = true then ((curtilagelaw10_awake.f k).bind fun t269 => (some t269)) else (some false))) else (some false)))) else ((asm_Text.f x0).bind fun t260 => (if t260.toList = ([] : List UInt8) then ((curtilagelaw10_awake.f k).bind fun t261 => (some t261)) else (some false))))
end
def curtilagelaw10_AsmBack.f (k : Nat) (l0 : List (S40)) (a1 : ByteArray) : Option (Bool) := (curtilagelaw10_few.f k l0).bind fun t245 => (if t245 = true then (curtilagelaw10_AsmBack.j0 k l0 a1 (decide ((a1.size : Int) > 600))) else (curtilagelaw10_AsmBack.j0 k l0 a1 true))
set_option maxHeartbeats 8000000 in
set_option maxRecDepth 100000 in
theorem curtilagelaw10_AsmBack.calls (k : Nat) (A0 : Option Addr) (c0 : Nat) (l0 : List (S40)) (a1 : ByteArray) (w : World) (HTAB0 : Env w) (hr0 : Kd.C k40 w A0 l0.length l0) (hc0 : l0.length ≤ c0) (h : curtilagelaw10_AsmBack.f k l0 a1 = some true) :
  Calls Tryz.prog 4 #[.slice A0 l0.length c0, .string a1] w fun e w' => e = .returned (.bool true) ∧ Below w.heap.size w w' := by
 have HTAB := Q4 HTAB0
 clear HTAB0
 have HR0 := Q4 hr0
 have HC0 := Q4 hc0
 clear hr0 hc0
 have HB := Q4 (Below.refl w.heap.size w)
 have H := h
 unfold curtilagelaw10_AsmBack.f at H
 clear h
 have HC3 := Q4 H
 clear H
 go_enter Tryz.func4, Tryz.ntmps4
 go_upto_region 1 with (fail)
 go_cut [21] (fun v21 wc => ∃ (kq : Nat) (x21_2 : Bool), v21 = .bool x21_2 ∧ Aside0 (curtilagelaw10_AsmBack.j0 kq l0 a1 x21_2 = some true) ∧ Aside0 (kq ≤ k) ∧ Aside0 (Below w.heap.size w wc))
 case first =>
  have H := HC3.out
  clear HC3
  replace H := Qi H
  obtain ⟨t245, A40, H⟩ := H
  try dsimp only at H
  have A4 := Q4 A40
  clear A40
  by_cases c5 : t245 = true
  ·subst c5
   rw [if_pos rfl] at H
   have H' := Q4 H
   clear H
   go_wp2_with (first|((with_reducible refine gate_callee (f := 9) rfl ?_); refine gL (some 15) Tryz.func9 #[.slice A0 l0.length c0] ?_; (with_reducible refine (curtilagelaw10_few.calls k _ _ l0 true _ ?side1 ?side2 A4.out).mono ?_); (case side1 => repeat (first|exact (Kd.C_below HR0.out HB.out)|(with_reducible refine Kd.C_alloc ?_ _)|(with_reducible refine Kd.C_drewN ?_ _)|(with_reducible refine Kd.C_drew ?_))); (case side2 => exact HC0.out); rintro e w6 ⟨rfl, hb⟩; refine ⟨_, rfl, ?_⟩; have n0_ := Q4 (Qg (by repeat (first|(with_reducible first|exact HB.out|apply Q8|apply Q5|apply Q9)|exact HB.out)) hb); clear HB; have HB := n0_; clear n0_;(try clear hb);(try clear hb2);(try clear hk);(try clear hi)))
   go_meet
   case rel => exact ⟨_, (decide ((a1.size : Int) > 600)), (by first|rfl|(simp; done)|(simp [*]; done)), H', ⟨by first|omega|exact Nat.le_refl _⟩, ⟨by repeat (first|(with_reducible first|exact HB.out|apply Q8|apply Q5|apply Q9)|exact HB.out)⟩⟩
  ·replace c5 := Bool.eq_false_iff.mpr c5
   subst c5
   rw [if_neg (show ¬ (false = true) by decide)] at H
   have H' := Q4 H
   clear H
   go_wp2_with (first|((with_reducible refine gate_callee (f := 9) rfl ?_); refine gL (some 15) Tryz.func9 #[.slice A0 l0.length c0] ?_; (with_reducible refine (curtilagelaw10_few.calls k _ _ l0 false _ ?side1 ?side2 A4.out).mono ?_); (case side1 => repeat (first|exact (Kd.C_below HR0.out HB.out)|(with_reducible refine Kd.C_alloc ?_ _)|(with_reducible refine Kd.C_drewN ?_ _)|(with_reducible refine Kd.C_drew ?_))); (case side2 => exact HC0.out); rintro e w7 ⟨rfl, hb⟩; refine ⟨_, rfl, ?_⟩; have n0_ := Q4 (Qg (by repeat (first|(with_reducible first|exact HB.out|apply Q8|apply Q5|apply Q9)|exact HB.out)) hb); clear HB; have HB := n0_; clear n0_;(try clear hb);(try clear hb2);(try clear hk);(try clear hi)))
   go_meet
   case rel => exact ⟨_, (true), (by first|rfl|(simp; done)|(simp [*]; done)), H', ⟨by first|omega|exact Nat.le_refl _⟩, ⟨by repeat (first|(with_reducible first|exact HB.out|apply Q8|apply Q5|apply Q9)|exact HB.out)⟩⟩
 case rest =>
  clear HC3
  (try clear p2);(try clear c4);(try clear c5)
  obtain ⟨kq, x21_2, rfl, HA, HJ2, HB⟩ := hcut
  cases kq with
  | zero => exact absurd HA.out (by simp [curtilagelaw10_AsmBack.j0])
  | succ kj2 =>
   have H := HA.out
   clear HA
   simp only [curtilagelaw10_AsmBack.j0] at H
   by_cases c8 : x21_2 = true
   ·subst c8
    rw [if_pos rfl] at H
    replace H := Qi H
    obtain ⟨t246, A90, H⟩ := H
    replace H : (some t246) = some true := H
    have A9 := Q4 A90
    clear A90
    obtain rfl := Qn H
    go_wp2_with (first|((with_reducible refine gate_callee (f := 5) rfl ?_); refine gL (some 22) Tryz.func5 #[] ?_; (with_reducible refine (curtilagelaw10_awake.calls kj2 _ (env_mono HTAB.out (by repeat (first|(with_reducible first|exact HB.out|apply Q8|apply Q5|apply Q9)|exact HB.out))) A9.out).mono ?_); rintro e w10 ⟨rfl, hb⟩; refine ⟨_, rfl, ?_⟩; have n0_ := Q4 (Qg (by repeat (first|(with_reducible first|exact HB.out|apply Q8|apply Q5|apply Q9)|exact HB.out)) hb); clear HB; have HB := n0_; clear n0_;(try clear hb);(try clear hb2);(try clear hk);(try clear hi)))
    go_ret
    exact ⟨by first|rfl|(simp [errW_none, errW_some] <;> rfl)|(simp [*, errW_none, errW_some] <;> rfl), by repeat (first|(with_reducible first|exact HB.out|apply Q8|apply Q5|apply Q9)|exact HB.out)⟩
   ·replace c8 := Bool.eq_false_iff.mpr c8
    subst c8
    rw [if_neg (show ¬ (false = true) by decide)] at H
    replace H := Qi H
    obtain ⟨⟨t247, t248, t249⟩, A110, H⟩ := H
    try dsimp only at H
    have A11 := Q4 A110
    clear A110
    have HC12 := Q4 H
    clear H
    go_upto_if 30 with (first|((with_reducible refine gate_callee (f := 6) rfl ?_); refine gL (some 25) Tryz.func6 #[.string a1] ?_; (with_reducible refine (asm_Read.calls kj2 a1 t247 t248 t249 _ (env_mono HTAB.out (by repeat (first|(with_reducible first|exact HB.out|apply Q8|apply Q5|apply Q9)|exact HB.out))) A11.out).mono ?_); rintro e w13 ⟨v250, rfl, ho0, hb⟩; refine ⟨_, rfl, ?_⟩; have n0_ := Q4 (Kd.R_lower ho0 bZ); have n1_ := Q4 (Qg (by repeat (first|(with_reducible first|exact HB.out|apply Q8|apply Q5|apply Q9)|exact HB.out)) hb); clear HB; have HO251 := n0_; have HB := n1_; clear n0_ n1_;(try clear hb);(try clear hb2);(try clear hk);(try clear hi);(try clear ho0)))
    (try simp only [Act.put, Q1,Q2,Q3])
    go_cut [] (fun wc => ∃ (kq : Nat), Aside0 (curtilagelaw10_AsmBack.j1 kq l0 = some true) ∧ Aside0 (kq ≤ kj2) ∧ Aside0 (Below w.heap.size w wc))
    case first =>
     have H := HC12.out
     clear HC12
     by_cases c14 : t249 = 0
     ·rw [if_pos c14] at H
      have c14b0 : (t249 == 0) = true := Qm c14
      have c14b1 : (t249 != 0) = false := Qh c14
      clear c14
      (first | rw [c14b0]|(simp only [i64_w, i32_w]; rw [c14b0])|skip)
      replace H := Qi H
      obtain ⟨t252, A150, H⟩ := H
      try dsimp only at H
      have A15 := Q4 A150
      clear A150
      replace H := Qi H
      obtain ⟨⟨t253, t254, t255⟩, A160, H⟩ := H
      try dsimp only at H
      have A16 := Q4 A160
      clear A160
      by_cases c17 : t255 = 0
      ·rw [if_pos c17] at H
       have c17b0 : (t255 == 0) = true := Qm c17
       have c17b1 : (t255 != 0) = false := Qh c17
       clear c17
       replace H := Qi H
       obtain ⟨t258, A180, H⟩ := H
       try dsimp only at H
       have A18 := Q4 A180
       clear A180
       by_cases c19 : t258 = true
       ·subst c19
        rw [if_pos rfl] at H
        have H' := Q4 H
        clear H
        obtain ⟨Ao20, co20, eo20⟩ := Kd.R_slice HO251.out
        subst eo20
        go_wp2_with (first|((with_reducible refine gate_callee (f := 10) rfl ?_); refine gL (some 33) Tryz.func10 #[.slice Ao20 t247.length co20] ?_; (with_reducible refine (asm_Text.calls _ _ t247 t252 _ (env_mono HTAB.out (by repeat (first|(with_reducible first|exact HB.out|apply Q8|apply Q5|apply Q9)|exact HB.out))) ?side1 ?side2 A15.out).mono ?_); (case side1 => repeat (first|exact (Kd.R_reads' HO251.out).2.2|(with_reducible refine Kd.C_alloc ?_ _)|(with_reducible refine Kd.C_drewN ?_ _)|(with_reducible refine Kd.C_drew ?_))); (case side2 => exact (Kd.R_reads' HO251.out).2.1); rintro e w21 ⟨rfl, hb⟩; refine ⟨_, rfl, ?_⟩; have n0_ := Q4 (Kd.R_below (rK HO251) hb); have n1_ := Q4 (Qg (by repeat (first|(with_reducible first|exact HB.out|apply Q8|apply Q5|apply Q9)|exact HB.out)) hb); clear HO251; clear HB; have HO251 := n0_; have HB := n1_; clear n0_ n1_;(try clear hb);(try clear hb2);(try clear hk);(try clear hi))|((with_reducible refine gate_callee (f := 6) rfl ?_); refine gL (some 34) Tryz.func6 #[.string t252] ?_; (with_reducible refine (asm_Read.calls kj2 t252 t253 t254 t255 _ (env_mono HTAB.out (by repeat (first|(with_reducible first|exact HB.out|apply Q8|apply Q5|apply Q9)|exact HB.out))) A16.out).mono ?_); rintro e w22 ⟨v256, rfl, ho0, hb⟩; refine ⟨_, rfl, ?_⟩; have n0_ := Q4 (Kd.R_elder' (rK HO251) (Kd.R_base ho0) hb); have n1_ := Q4 (Kd.R_lower (Kd.R_new' ho0 (Kd.R_lt (rK HO251))) bZ); have n2_ := Q4 (Qg (by repeat (first|(with_reducible first|exact HB.out|apply Q8|apply Q5|apply Q9)|exact HB.out)) hb); clear HO251; clear HB; have HO251 := n0_; have HO257 := n1_; have HB := n2_; clear n0_ n1_ n2_;(try clear hb);(try clear hb2);(try clear hk);(try clear hi);(try clear ho0); obtain ⟨Ao23, co23, eo23⟩ := Kd.R_slice HO257.out; subst eo23)|(go_at_call 8; (with_reducible refine (curtilageref10_Same.calls kj2 _ _ t253 _ _ t247 true _ ?side1 ?side2 ?side3 ?side4 A18.out).mono ?_); (case side1 => repeat (first|exact (Kd.R_reads' HO257.out).2.2|(with_reducible refine Kd.C_alloc ?_ _)|(with_reducible refine Kd.C_drewN ?_ _)|(with_reducible refine Kd.C_drew ?_))); (case side2 => exact (Kd.R_reads' HO257.out).2.1); (case side3 => repeat (first|exact (Kd.R_reads' HO251.out).2.2|(with_reducible refine Kd.C_alloc ?_ _)|(with_reducible refine Kd.C_drewN ?_ _)|(with_reducible refine Kd.C_drew ?_))); (case side4 => exact (Kd.R_reads' HO251.out).2.1); rintro e w' ⟨rfl, ⟨nd, rfl⟩⟩))
        go_meet
        case rel => exact ⟨_, H', ⟨by have := HJ2.out; first|omega|exact Nat.le_refl _⟩, ⟨by repeat (first|(with_reducible first|exact HB.out|apply Q8|apply Q5|apply Q9)|exact HB.out)⟩⟩
       ·replace c19 := Bool.eq_false_iff.mpr c19
        subst c19
        rw [if_neg (show ¬ (false = true) by decide)] at H
        exact absurd H (by first | decide)
      ·rw [if_neg c17] at H
       have c17b0 : (t255 == 0) = false := Qk c17
       have c17b1 : (t255 != 0) = true := Ql c17
       exact absurd H (by first | decide)
     ·rw [if_neg c14] at H
      have c14b0 : (t249 == 0) = false := Qk c14
      have c14b1 : (t249 != 0) = true := Ql c14
      (first | rw [c14b0]|(simp only [i64_w, i32_w]; rw [c14b0])|skip)
      have H' := Q4 H
      clear H
      go_wp2
      go_meet
      case rel => exact ⟨_, H', ⟨by have := HJ2.out; first|omega|exact Nat.le_refl _⟩, ⟨by repeat (first|(with_reducible first|exact HB.out|apply Q8|apply Q5|apply Q9)|exact HB.out)⟩⟩
    case rest =>
     clear HC12
     (try clear c1);(try clear p2);(try clear c4);(try clear c5);(try clear c6);(try clear c8);(try clear c9);(try clear c10);(try clear c14);(try clear c14b0);(try clear c14b1);(try clear c17);(try clear c17b0);(try clear c17b1);(try clear c19);(try clear p2)
     obtain ⟨kq, HA, HJ11, HB⟩ := hcut
     cases kq with
     | zero => exact absurd HA.out (by simp [curtilagelaw10_AsmBack.j1])
     | succ kj11 =>
      have H := HA.out
      clear HA
      simp only [curtilagelaw10_AsmBack.j1] at H
      replace H := Qi H
      obtain ⟨t259, A310, H⟩ := H
      try dsimp only at H
      have A31 := Q4 A310
      clear A310
      by_cases c32 : t259 = true
      ·subst c32
       rw [if_pos rfl] at H
       replace H := Qi H
       obtain ⟨t262, A330, H⟩ := H
       try dsimp only at H
       have A33 := Q4 A330
       clear A330
       replace H := Qi H
       obtain ⟨⟨t263, t264, t265⟩, A340, H⟩ := H
       try dsimp only at H
       have A34 := Q4 A340
       clear A340
       by_cases c35 : t265 = 0
       ·rw [if_pos c35] at H
        have c35b0 : (t265 == 0) = true := Qm c35
        have c35b1 : (t265 != 0) = false := Qh c35
        clear c35
        replace H := Qi H
        obtain ⟨t268, A360, H⟩ := H
        try dsimp only at H
        have A36 := Q4 A360
        clear A360
        by_cases c37 : t268 = true
        ·subst c37
         rw [if_pos rfl] at H
         replace H := Qi H
         obtain ⟨t269, A380, H⟩ := H
         replace H : (some t269) = some true := H
         have A38 := Q4 A380
         clear A380
         obtain rfl := Qn H
         go_wp2_with (first|((with_reducible refine gate_callee (f := 11) rfl ?_); refine gL (some 47) Tryz.func11 #[.slice A0 l0.length c0] ?_; (with_reducible refine (curtilageref10_Good.calls kj11 _ _ l0 true _ ?side1 ?side2 A31.out).mono ?_); (case side1 => repeat (first|exact (Kd.C_below HR0.out HB.out)|(with_reducible refine Kd.C_alloc ?_ _)|(with_reducible refine Kd.C_drewN ?_ _)|(with_reducible refine Kd.C_drew ?_))); (case side2 => exact HC0.out); rintro e w39 ⟨rfl, hb⟩; refine ⟨_, rfl, ?_⟩; have n0_ := Q4 (Qg (by repeat (first|(with_reducible first|exact HB.out|apply Q8|apply Q5|apply Q9)|exact HB.out)) hb); clear HB; have HB := n0_; clear n0_;(try clear hb);(try clear hb2);(try clear hk);(try clear hi))|((with_reducible refine gate_callee (f := 10) rfl ?_); refine gL (some 57) Tryz.func10 #[.slice A0 l0.length c0] ?_; (with_reducible refine (asm_Text.calls _ _ l0 t262 _ (env_mono HTAB.out (by repeat (first|(with_reducible first|exact HB.out|apply Q8|apply Q5|apply Q9)|exact HB.out))) ?side1 ?side2 A33.out).mono ?_); (case side1 => repeat (first|exact (Kd.C_below HR0.out HB.out)|(with_reducible refine Kd.C_alloc ?_ _)|(with_reducible refine Kd.C_drewN ?_ _)|(with_reducible refine Kd.C_drew ?_))); (case side2 => exact HC0.out); rintro e w40 ⟨rfl, hb⟩; refine ⟨_, rfl, ?_⟩; have n0_ := Q4 (Qg (by repeat (first|(with_reducible first|exact HB.out|apply Q8|apply Q5|apply Q9)|exact HB.out)) hb); clear HB; have HB := n0_; clear n0_;(try clear hb);(try clear hb2);(try clear hk);(try clear hi))|((with_reducible refine gate_callee (f := 6) rfl ?_); refine gL (some 58) Tryz.func6 #[.string t262] ?_; (with_reducible refine (asm_Read.calls kj11 t262 t263 t264 t265 _ (env_mono HTAB.out (by repeat (first|(with_reducible first|exact HB.out|apply Q8|apply Q5|apply Q9)|exact HB.out))) A34.out).mono ?_); rintro e w41 ⟨v266, rfl, ho0, hb⟩; refine ⟨_, rfl, ?_⟩; have n0_ := Q4 (Kd.R_lower ho0 bZ); have n1_ := Q4 (Qg (by repeat (first|(with_reducible first|exact HB.out|apply Q8|apply Q5|apply Q9)|exact HB.out)) hb); clear HB; have HO267 := n0_; have HB := n1_; clear n0_ n1_;(try clear hb);(try clear hb2);(try clear hk);(try clear hi);(try clear ho0); obtain ⟨Ao42, co42, eo42⟩ := Kd.R_slice HO267.out; subst eo42)|(go_at_call 8; (with_reducible refine (curtilageref10_Same.calls kj11 _ _ t263 _ _ l0 true _ ?side1 ?side2 ?side3 ?side4 A36.out).mono ?_); (case side1 => repeat (first|exact (Kd.R_reads' HO267.out).2.2|(with_reducible refine Kd.C_alloc ?_ _)|(with_reducible refine Kd.C_drewN ?_ _)|(with_reducible refine Kd.C_drew ?_))); (case side2 => exact (Kd.R_reads' HO267.out).2.1); (case side3 => repeat (first|exact (Kd.C_below HR0.out HB.out)|(with_reducible refine Kd.C_alloc ?_ _)|(with_reducible refine Kd.C_drewN ?_ _)|(with_reducible refine Kd.C_drew ?_))); (case side4 => exact HC0.out); rintro e w' ⟨rfl, ⟨nd, rfl⟩⟩)|(go_at_call 5; (with_reducible refine (curtilagelaw10_awake.calls kj11 _ (env_mono HTAB.out (by repeat (first|(with_reducible first|exact HB.out|apply Q8|apply Q5|apply Q9)|exact HB.out))) A38.out).mono ?_); rintro e w43 ⟨rfl, hb⟩; have n0_ := Q4 (Kd.R_below (rK HO267) hb); have n1_ := Q4 (Qg (by repeat (first|(with_reducible first|exact HB.out|apply Q8|apply Q5|apply Q9)|exact HB.out)) hb); clear HO267; clear HB; have HO267 := n0_; have HB := n1_; clear n0_ n1_;(try clear hb);(try clear hb2);(try clear hk);(try clear hi)))
         go_ret
         exact ⟨by first|rfl|(simp [errW_none, errW_some] <;> rfl)|(simp [*, errW_none, errW_some] <;> rfl), by repeat (first|(with_reducible first|exact HB.out|apply Q8|apply Q5|apply Q9)|exact HB.out)⟩
        ·replace c37 := Bool.eq_false_iff.mpr c37
         subst c37
         rw [if_neg (show ¬ (false = true) by decide)] at H
         exact absurd H (by first | decide)
       ·rw [if_neg c35] at H
        have c35b0 : (t265 == 0) = false := Qk c35
        have c35b1 : (t265 != 0) = true := Ql c35
        exact absurd H (by first | decide)
      ·replace c32 := Bool.eq_false_iff.mpr c32
       subst c32
       rw [if_neg (show ¬ (false = true) by decide)] at H
       replace H := Qi H
       obtain ⟨t260, A510, H⟩ := H
       try dsimp only at H
       have A51 := Q4 A510
       clear A510
       by_cases c52 : t260.toList = ([] : List UInt8)
       ·rw [if_pos c52] at H
        have c52b0 : (t260.toList == ([] : List UInt8)) = true := Qm c52
        have c52b1 : (t260.toList != ([] : List UInt8)) = false := Qh c52
        clear c52
        replace H := Qi H
        obtain ⟨t261, A530, H⟩ := H
        replace H : (some t261) = some true := H
        have A53 := Q4 A530
        clear A530
        obtain rfl := Qn H
        go_wp2_with (first|((with_reducible refine gate_callee (f := 11) rfl ?_); refine gL (some 47) Tryz.func11 #[.slice A0 l0.length c0] ?_; (with_reducible refine (curtilageref10_Good.calls kj11 _ _ l0 false _ ?side1 ?side2 A31.out).mono ?_); (case side1 => repeat (first|exact (Kd.C_below HR0.out HB.out)|(with_reducible refine Kd.C_alloc ?_ _)|(with_reducible refine Kd.C_drewN ?_ _)|(with_reducible refine Kd.C_drew ?_))); (case side2 => exact HC0.out); rintro e w54 ⟨rfl, hb⟩; refine ⟨_, rfl, ?_⟩; have n0_ := Q4 (Qg (by repeat (first|(with_reducible first|exact HB.out|apply Q8|apply Q5|apply Q9)|exact HB.out)) hb); clear HB; have HB := n0_; clear n0_;(try clear hb);(try clear hb2);(try clear hk);(try clear hi))|((with_reducible refine gate_callee (f := 10) rfl ?_); refine gL (some 50) Tryz.func10 #[.slice A0 l0.length c0] ?_; (with_reducible refine (asm_Text.calls _ _ l0 t260 _ (env_mono HTAB.out (by repeat (first|(with_reducible first|exact HB.out|apply Q8|apply Q5|apply Q9)|exact HB.out))) ?side1 ?side2 A51.out).mono ?_); (case side1 => repeat (first|exact (Kd.C_below HR0.out HB.out)|(with_reducible refine Kd.C_alloc ?_ _)|(with_reducible refine Kd.C_drewN ?_ _)|(with_reducible refine Kd.C_drew ?_))); (case side2 => exact HC0.out); rintro e w55 ⟨rfl, hb⟩; refine ⟨_, rfl, ?_⟩; have n0_ := Q4 (Qg (by repeat (first|(with_reducible first|exact HB.out|apply Q8|apply Q5|apply Q9)|exact HB.out)) hb); clear HB; have HB := n0_; clear n0_;(try clear hb);(try clear hb2);(try clear hk);(try clear hi))|(go_at_call 5; (with_reducible refine (curtilagelaw10_awake.calls kj11 _ (env_mono HTAB.out (by repeat (first|(with_reducible first|exact HB.out|apply Q8|apply Q5|apply Q9)|exact HB.out))) A53.out).mono ?_); rintro e w56 ⟨rfl, hb⟩; have n0_ := Q4 (Qg (by repeat (first|(with_reducible first|exact HB.out|apply Q8|apply Q5|apply Q9)|exact HB.out)) hb); clear HB; have HB := n0_; clear n0_;(try clear hb);(try clear hb2);(try clear hk);(try clear hi)))
        go_ret
        exact ⟨by first|rfl|(simp [errW_none, errW_some] <;> rfl)|(simp [*, errW_none, errW_some] <;> rfl), by repeat (first|(with_reducible first|exact HB.out|apply Q8|apply Q5|apply Q9)|exact HB.out)⟩
       ·rw [if_neg c52] at H
        have c52b0 : (t260.toList == ([] : List UInt8)) = false := Qk c52
        have c52b1 : (t260.toList != ([] : List UInt8)) = true := Ql c52
        exact absurd H (by first | decide)

end Go.Proofs.YtbelnkdbghggmaaGreatDoor.X
namespace Go.Proofs.YtbelnkdbghggmaaGreatDoor.X
open Go.RowKit Go.Proofs.YtbelnkdbghggmaaGreatDoorW.PrintWords
set_option linter.unusedVariables false
set_option linter.unusedSimpArgs false
def textL (l : List S40) : List UInt8 := l.flatMap fun x => lineT x ++ [10]
def fine (x : S40) : Prop := wfX x ∧ goodB x = true
theorem readS_text : ∀ (l : List S40) (acc : List S40) (m n : Nat), (∀ x ∈ l, fine x) → l.length < n → readS n (textL l) acc m = (acc ++ l, 0, 0)
  | [], acc, m, n, _, hn => by
    obtain ⟨n, rfl⟩ : ∃ q, n = q + 1 := ⟨n - 1, by simp at hn; omega⟩
    rw [readS, if_pos (show textL [] = [] from rfl), List.append_nil]
  | x :: l, acc, m, n, hf, hn => by
    simp only [List.length_cons] at hn
    obtain ⟨n, rfl⟩ : ∃ q, n = q + 1 := ⟨n - 1, by omega⟩
    have hx := hf x List.mem_cons_self
    have hc := line_chars hx.2
    have e : textL (x :: l) = lineT x ++ 10 :: textL l := by simp [textL]
    have hnl := nl_at (b := textL l) hc.1
    rw [readS, e, hnl.1, hnl.2, if_neg (by simp), if_neg hc.2.2.1, find_of hx.1 hx.2]
    show readS n (textL l) (acc ++ [x]) (m + 1) = _
    rw [readS_text l (acc ++ [x]) (m + 1) n (fun y hy => hf y (List.mem_cons_of_mem _ hy)) (by omega), List.append_assoc]
    rfl
theorem readS_fine : ∀ (n : Nat) (s : List UInt8) (acc : List S40) (m : Nat), (∀ x ∈ acc, fine x) → (∀ x ∈ (readS n s acc m).1, fine x) ∧ (readS n s acc m).1.length ≤ acc.length + n
  | 0, s, acc, m, h => ⟨h, by rw [readS]; exact Nat.le_refl _⟩
  | n + 1, s, acc, m, h => by
    rw [readS]
    split
    · exact ⟨h, by show acc.length ≤ _; omega⟩
    · split
      · have := readS_fine n (nlR s) acc (m + 1) h
        exact ⟨this.1, by have := this.2; omega⟩
      · cases hf : findL (toB (nlA s)) with
        | none => exact And.intro (fun x hx => absurd hx List.not_mem_nil) (Nat.zero_le _)
        | some x =>
          have hfs := find_some hf
          have := readS_fine n (nlR s) (acc ++ [x]) (m + 1) (fun y hy => by
            rcases List.mem_append.1 hy with hy | hy
            · exact h y hy
            · rw [List.mem_singleton] at hy
              rw [hy]
              exact ⟨hfs.1, hfs.2.1⟩)
          refine ⟨this.1, ?_⟩
          have h2 := this.2
          rw [List.length_append, List.length_cons, List.length_nil] at h2
          show (readS n (nlR s) (acc ++ [x]) (m + 1)).1.length ≤ _
          omega
theorem textL_len : ∀ l : List S40, (∀ x ∈ l, fine x) → l.length ≤ (textL l).length ∧ (textL l).length ≤ 151 * l.length
  | [], _ => ⟨Nat.le_refl _, Nat.le_refl _⟩
  | x :: l, h => by
    have hx := h x List.mem_cons_self
    have hs := line_size hx.1 hx.2
    have ih := textL_len l fun y hy => h y (List.mem_cons_of_mem _ hy)
    have e : textL (x :: l) = lineT x ++ 10 :: textL l := by simp [textL]
    rw [e, List.length_append, List.length_cons, List.length_cons]
    omega
theorem txtL_good {x : S40} (h : fine x) : txtL x = toB (lineT x) := by
  unfold txtL
  rw [txt_good h.1 h.2]
  rfl
theorem textB_eq : ∀ l : List S40, (∀ x ∈ l, fine x) → textB l = textL l
  | [], _ => rfl
  | x :: l, h => by
    have ih := textB_eq l fun y hy => h y (List.mem_cons_of_mem _ hy)
    unfold textB textL at *
    rw [List.flatMap_cons, List.flatMap_cons, ih, txtL_good (h x List.mem_cons_self), app_data, toB_data]
theorem okT_of (x : S40) (hw : wfX x) : okT x = true := by
  unfold okT
  rw [Bool.and_eq_true, wfXb_iff]
  refine ⟨hw, ?_⟩
  cases hg : goodB x with
  | false => rfl
  | true =>
    have hs := line_size hw hg
    have ht := txtL_good ⟨hw, hg⟩
    rw [Bool.not_true, Bool.false_or, txt_good hw hg, ht, Bool.and_eq_true, decide_eq_true_eq]
    exact ⟨rfl, by rw [size_data, toB_data]; omega⟩
theorem aText_val (l : List S40) (hl : l.length ≤ 1000000) (hw : ∀ x ∈ l, wfX x) : asm_Text.f l = some (if l.all goodB = true then toB (textL l) else ByteArray.empty) := by
  unfold asm_Text.f
  rw [if_pos ⟨hl, List.all_eq_true.2 fun x hx => okT_of x (hw x hx)⟩]
  unfold textR
  by_cases h : l.all goodB = true
  · rw [if_pos h, if_pos h, textB_eq l fun x hx => ⟨hw x hx, List.all_eq_true.1 h x hx⟩]
    rfl
  · rw [if_neg h, if_neg h]
theorem back_val (K : Nat) (hK : 100200 ≤ K) (l : List S40) (hl : l.length ≤ 601) (h : ∀ x ∈ l, fine x) : asm_Text.f l = some (toB (textL l)) ∧ asm_Read.f K (toB (textL l)) = some (l, 0, 0) := by
  have hlen := textL_len l h
  have hsz : (toB (textL l)).size = (textL l).length := rfl
  constructor
  · rw [aText_val l (by omega) fun x hx => (h x hx).1, if_pos (List.all_eq_true.2 fun x hx => (h x hx).2)]
  · rw [asm_Read_val K _ (by omega) (by omega), toB_data, readS_text l [] 0 _ h (by omega), List.nil_append]
theorem awake_val (K : Nat) (hK : 60 ≤ K) : curtilagelaw10_awake.f K = some true := by
  have hR : asm_Read.f K (⟨#[97, 58]⟩ : ByteArray) = some ([markL ⟨#[97]⟩], 0, 0) := by
    have hw : wfX (markL ⟨#[97]⟩) := mark_wf _ (by decide)
    have hg : goodB (markL ⟨#[97]⟩) = true := by decide +kernel
    have hl : lineT (markL ⟨#[97]⟩) = [97, 58] := line_mark (x := markL ⟨#[97]⟩) (fun h => by rw [ByteArray.toList_eq] at h; cases h)
    have hf := find_of hw hg
    rw [hl] at hf
    rw [asm_Read_val K _ (by decide) (by show 2 + 50 ≤ K; omega)]
    show some (readS 3 [97, 58] [] 0) = _
    have hA : nlA [97, 58] = [97, 58] ∧ nlR [97, 58] = [] := nl_none (by decide)
    rw [readS, if_neg (by simp), hA.1, hA.2, if_neg (by simp), hf]
    show some (readS 2 [] ([] ++ [markL ⟨#[97]⟩]) 1) = _
    rw [readS, if_pos rfl]
    rfl
  unfold curtilagelaw10_awake.f
  rw [hR]
  decide +kernel
theorem few_l (l : List S40) (hl : l.length ≤ 60) : ∀ (d i k : Nat), i + d = l.length → d < k → ∃ b, curtilagelaw10_few.l0 k l (l.length : Int) (i : Int) = some b
  | 0, i, k, hi, hk => by
    obtain ⟨k, rfl⟩ : ∃ q, k = q + 1 := ⟨k - 1, by omega⟩
    rw [curtilagelaw10_few.l0, if_neg (by omega)]
    exact ⟨true, rfl⟩
  | d + 1, i, k, hi, hk => by
    obtain ⟨k, rfl⟩ : ∃ q, k = q + 1 := ⟨k - 1, by omega⟩
    rw [curtilagelaw10_few.l0, if_pos (by omega), if_pos (by omega), if_pos (by omega)]
    split
    · exact ⟨false, rfl⟩
    · rw [w64 _ (by omega) (by omega)]
      exact few_l l hl d (i + 1) k (by omega) (by omega)
theorem few_val (K : Nat) (hK : 100 ≤ K) (l : List S40) : ∃ b, curtilagelaw10_few.f K l = some b ∧ (b = true → l.length ≤ 60) := by
  unfold curtilagelaw10_few.f
  by_cases h : (l.length : Int) > 60
  · rw [if_pos h]
    exact ⟨false, rfl, fun k => by cases k⟩
  · rw [if_neg h]
    obtain ⟨b, hb⟩ := few_l l (by omega) l.length 0 K (by omega) (by omega)
    exact ⟨b, hb, fun _ => by omega⟩
theorem size_bound : ∀ l : List S40, ∃ B, ∀ x ∈ l, x.f0.size + x.f2.size ≤ B
  | [] => ⟨0, fun x hx => by cases hx⟩
  | x :: l => by
    obtain ⟨B, hB⟩ := size_bound l
    refine ⟨B + (x.f0.size + x.f2.size), fun y hy => ?_⟩
    rcases List.mem_cons.1 hy with h | h
    · rw [h]; omega
    · have := hB y h; omega
theorem rGood_l (l : List S40) (hl : l.length ≤ 60) (hw : ∀ x ∈ l, wfX x) (B : Nat) (hB : ∀ x ∈ l, x.f0.size + x.f2.size ≤ B) : ∀ (d i k : Nat), i + d = l.length → d + B + 101 ≤ k → (l.take i).all goodB = true → curtilageref10_Good.l0 k l (i : Int) = some (l.all goodB)
  | 0, i, k, hi, hk, ha => by
    obtain ⟨k, rfl⟩ : ∃ q, k = q + 1 := ⟨k - 1, by omega⟩
    rw [List.take_of_length_le (by omega)] at ha
    rw [curtilageref10_Good.l0, if_neg (by omega), ha]
  | d + 1, i, k, hi, hk, ha => by
    obtain ⟨k, rfl⟩ : ∃ q, k = q + 1 := ⟨k - 1, by omega⟩
    have hlt : i < l.length := by omega
    have hrd : rd_T40 l (i : Int) = l[i] := by
      unfold rd_T40
      rw [Int.toNat_natCast, List.getD_eq_getElem?_getD, List.getElem?_eq_getElem hlt]
      rfl
    have hx := hw l[i] (List.getElem_mem hlt)
    have hb := hB l[i] (List.getElem_mem hlt)
    rw [curtilageref10_Good.l0, if_pos (by omega), if_pos (by omega), hrd, rGood k l[i] hx.2.1 hx.2.2 (by omega)]
    simp only [Option.bind_some]
    cases hg : goodB l[i] with
    | false =>
      have : l.all goodB = false := by
        rw [List.all_eq_false]
        exact ⟨l[i], List.getElem_mem hlt, by rw [hg]; decide⟩
      rw [if_neg (by decide), this]
    | true =>
      rw [if_pos rfl, w64 _ (by omega) (by omega)]
      exact rGood_l l hl hw B hB d (i + 1) k (by omega) (by omega) (by rw [List.take_succ_eq_append_getElem hlt, List.all_append, ha, Bool.true_and]; simp [hg])
theorem AsmBack_val (l : List S40) (s : ByteArray) (hw : ∀ x ∈ l, wfX x) : ∃ k, curtilagelaw10_AsmBack.f k l s = some true := by
  obtain ⟨B, hB⟩ := size_bound l
  refine ⟨B + 200002, ?_⟩
  have aw := awake_val (B + 200001) (by omega)
  have aw0 := awake_val (B + 200000) (by omega)
  unfold curtilagelaw10_AsmBack.f
  obtain ⟨b, hf, hfl⟩ := few_val (B + 200002) (by omega) l
  rw [hf]
  simp only [Option.bind_some]
  have jt : curtilagelaw10_AsmBack.j0 (B + 200002) l s true = some true := by
    rw [curtilagelaw10_AsmBack.j0, if_pos rfl, aw]
    rfl
  cases b with
  | false => rw [if_neg (by decide)]; exact jt
  | true =>
    rw [if_pos rfl]
    have hl := hfl rfl
    by_cases h6 : (s.size : Int) > 600
    · rw [decide_eq_true h6]; exact jt
    · rw [decide_eq_false h6]
      have j1 : curtilagelaw10_AsmBack.j1 (B + 200001) l = some true := by
        have hG : curtilageref10_Good.f (B + 200000) l = some (l.all goodB) := by
          unfold curtilageref10_Good.f
          exact rGood_l l hl hw B hB l.length 0 (B + 200000) (by omega) (by omega) rfl
        rw [curtilagelaw10_AsmBack.j1, hG]
        simp only [Option.bind_some]
        cases hg : l.all goodB with
        | true =>
          obtain ⟨h1, h2⟩ := back_val (B + 200000) (by omega) l (by omega) fun x hx => ⟨hw x hx, List.all_eq_true.1 hg x hx⟩
          rw [if_pos rfl, h1]
          simp only [Option.bind_some]
          rw [h2]
          simp only [Option.bind_some, if_true]
          rw [same_self (B + 200000) l (by omega) (by omega)]
          simp only [Option.bind_some, if_true]
          rw [aw0]
          rfl
        | false =>
          have hT : asm_Text.f l = some ByteArray.empty := by
            rw [aText_val l (by omega) hw, hg]
            rfl
          rw [if_neg (by decide), hT]
          simp only [Option.bind_some]
          rw [if_pos (show ByteArray.empty.toList = [] from by rw [ByteArray.toList_eq]; rfl), aw0]
          rfl
      rw [curtilagelaw10_AsmBack.j0, if_neg (by decide), asm_Read_val (B + 200001) s (by omega) (by omega)]
      simp only [Option.bind_some]
      have hrf := readS_fine (s.size + 1) s.data.toList [] 0 (fun x hx => by cases hx)
      generalize readS (s.size + 1) s.data.toList [] 0 = r at hrf ⊢
      obtain ⟨m, n, e⟩ := r
      have hml : m.length ≤ 0 + (s.size + 1) := hrf.2
      simp only
      by_cases he : e = 0
      · obtain ⟨h1, h2⟩ := back_val (B + 200001) (by omega) m (by omega) hrf.1
        rw [if_pos he, h1]
        simp only [Option.bind_some]
        rw [h2]
        simp only [Option.bind_some, if_true]
        rw [same_self (B + 200001) m (by omega) (by omega)]
        simp only [Option.bind_some, if_true]
        exact j1
      · rw [if_neg he]
        exact j1
end Go.Proofs.YtbelnkdbghggmaaGreatDoor.X
