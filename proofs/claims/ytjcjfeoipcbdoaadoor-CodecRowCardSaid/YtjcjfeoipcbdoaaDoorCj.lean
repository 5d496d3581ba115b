/- Contract of codec.text: the label of a text, or the error that is thrown. -/
import Derived.Test.YtjcjfeoipcbdoaaDoorCi
namespace Go.Proofs.YtjcjfeoipcbdoaaDoor.X
open Go.RowKit Go.Shelf Go.Proofs.YtjcjfeoipcbdoaaDoorW.PrintWords Go.Proofs.YtjcjfeoipcbdoaaDoorW.PrintLast Go.Proofs.YtjcjfeoipcbdoaaDoorW.PrintMore
attribute [local go_sem] Oper.semAt_some
set_option linter.unusedVariables false
set_option linter.unusedSimpArgs false
theorem append1_run {W : World} {base : Nat} {v : Value} {xs : List S47} {p : S47} (HO : Kd.R k47 47 W base (fun _ => True) v xs) (hbase : base ≤ W.heap.size) (hl : (xs.length + 1) * 16 ≤ 140737488355328) (ty : TypeId) :
    ∃ v1 w1, (Builtin.append_ #[23, 23] ty #[v, .slice (some ⟨W.heap.size, 0, none⟩) 1 1]).run Tryd.prog (W.alloc (.cells #[.int .u64 p.f0, .int .i64 p.f1] 47)) = .ok v1 w1 ∧
      Kd.R k47 47 w1 base (fun _ => True) v1 (xs ++ [p]) ∧ W.grownBy w1 v.ownBlock := by
  obtain ⟨i0, hi, hzz⟩ := Option.map_eq_some_iff.1 info47
  simp only [Prod.mk.injEq] at hzz
  obtain ⟨hz0, hz1, hz2⟩ := hzz
  have HO1 := HO
  obtain ⟨h0, inner, hown, hr⟩ := HO
  obtain ⟨v1, w1, hrun, h2, hg, _, hat⟩ := run_append_own_at (P := Tryd.prog) (W.alloc (.cells #[.int .u64 p.f0, .int .i64 p.f1] 47)) base 23 ty 47 i0 _ 2 16 Tryd.underlying23 hi hz0 hz1 hz2 rfl (by decide) v xs.length inner (World.ownsRow.alloc hown _) ⟨W.heap.size, 0, none⟩ 1 1 [.int .u64 p.f0, .int .i64 p.f1] rfl
    (by simpa using World.news_of_block (cs := #[.int .u64 p.f0, .int .i64 p.f1]) (t := 47) (fr := (0, 0)) (heap_alloc_new W (.cells #[.int .u64 p.f0, .int .i64 p.f1] 47))) (by intro u hu; simp at hu; rcases hu with rfl | rfl <;> rfl) (by simp only [maxLen]; omega) hl (by simp; omega)
  refine ⟨v1, w1, hrun, ?_, World.grownBy.trans (World.grownBy_alloc W _ _) hg⟩
  refine Kd.R_appended (okp := fun _ => False) h0 hr (k47_mkM _ _ _ p) (fun _ h => h.elim) (fun _ _ => trivial) h2 (World.grownBy.trans (World.grownBy_alloc W _ _) hg) ?_
  rcases hat with hat | hat
  · exact .inl hat
  · exact .inr ⟨_, hat, by simp⟩
theorem wpListIn_app {F : Fence} {n : Nat} {w : World} {ops : Array Oper} {rest : List Oper} {o : Oper} {a : Act} {Q : Exit → Act → World → Prop}
    (hg : o.guard = none) (s x : Operand) (t : TypeId) (hop : o.op = Op.call { callee := Callee.builtin Builtin.append, args := #[s, x], argTypes := #[t, t] }) (v u : Value) (hs : a.eval s = v) (hx : a.eval x = u) {v' : Value} {w' : World}
    (hrun : (Builtin.append_ #[t, t] o.type #[v, u]).run Tryd.prog w = .ok v' w') (hK : wpListIn F n Tryd.prog ops Q rest (a.put o.dst v') w') :
    wpListIn F n Tryd.prog ops Q (o :: rest) a w := by
  refine wpListIn_plain hg fun K hK' => ?_
  unfold Oper.wpIn
  refine ⟨?_, ?_⟩
  · simp [Oper.about, hop, resolve, Target.leads, Sem.run_pure]
  · rw [Oper.semAt_plain F _ _ (by rw [hop]; intro c hc'; cases hc')]
    simp [execOp, hop, resolve, invoke, builtin, hs, hx, hrun, Result.andThen]
    exact hK' _ _ hK
/-- The pairs of a text, each with whether it is one. -/
def pairsR (ps : List ByteArray) : List S47 := ps.map (fun x => (pairR x).1)
def badR (ps : List ByteArray) : Bool := ps.any (fun x => !(pairR x).2)
/-- A text's label, or the error that is thrown. -/
def textR (s : ByteArray) : Int × List S47 :=
  if (s.toList == ([45] : List UInt8)) = true then (0, []) else
    if (!(badR (splitB 44 s)) && fitL (pairsR (splitB 44 s))) = true then (if (pairsR (splitB 44 s)).length ≤ 16 then (0, pairsR (splitB 44 s)) else (6, [])) else (11, [])
def TextPost (r : Int × List S47) (w : World) (e : Ending) (w' : World) : Prop :=
  ((∃ v, r.1 = 0 ∧ e = .returned v ∧ Kd.R k47 47 w' w.heap.size (fun _ => True) v r.2) ∨ (r.1 ≠ 0 ∧ e = .panicked (thrown r.1))) ∧ Below w.heap.size w w'
theorem pairsR_snoc (ps : List ByteArray) (x : ByteArray) : pairsR (ps ++ [x]) = pairsR ps ++ [(pairR x).1] := by simp [pairsR]
theorem keeps_below {W W' : World} (h : Below W.heap.size W W') : KeepsOthers W W' := ⟨h.size, fun k o hk _ => (h.block k (Array.getElem?_eq_some_iff.1 hk).1).trans hk⟩
theorem blk_far {W : World} {i b j : Nat} {o : Obj} {u : Value} (h : W.heap[i]? = some o) (hne : i ≠ b) : (W.setCell ⟨b, j, none⟩ u).heap[i]? = some o := (Below.heap_setCell _ _ _ _ (by show i ≠ b; exact hne)).trans h
theorem R_set2 {W : World} {base g t j : Nat} {ok : Nat → Prop} {v u : Value} {xs : List S47} {cells : Array Value} (h : Kd.R k47 47 W base ok v xs) (hb : W.heap[g]? = some (.cells cells t (0, 0))) (ht : t ≠ 47) : Kd.R k47 47 (W.setCell ⟨g, j, none⟩ u) base ok v xs :=
  Kd.R_set h hb (by intro q hq; simp [k47, Kd.iso, Kd.pair, Kd.int, Kd.scalar] at hq; omega) j u
theorem badR_snoc (ps : List ByteArray) (x : ByteArray) : badR (ps ++ [x]) = (badR ps || !(pairR x).2) := by simp [badR, List.any_append]
theorem R_put {W : World} {base l : Nat} {ok : Nat → Prop} {v : Value} {xs : List S47} {o o' : Obj} (h : Kd.R k47 47 W base ok v xs) (hl : W.heap[l]? = some o) (ho : o.isCells = false) : Kd.R k47 47 (W.putObj l o') base ok v xs := by
  refine Kd.R_grown2 h rfl (grownBy_putObj' W l o') (fun k hk => ?_)
  cases hk
  obtain ⟨inner, hw⟩ := Kd.R_own h
  rcases hw.2 with ⟨rfl, _⟩ | ⟨g', cap, cur, rfl, _, hh, _⟩
  · simp [Value.ownBlock]
  · intro he
    have e : l = g' := by simpa [Value.ownBlock] using he
    subst e
    rw [hh] at hl
    cases hl
    cases ho
theorem own_cells {W : World} {base : Nat} {ok : Nat → Prop} {v : Value} {xs : List S47} (h : Kd.R k47 47 W base ok v xs) (j : Nat) (o : Obj) (hj : v.ownBlock = some j) (ho : W.heap[j]? = some o) : o.isCells = true := by
  obtain ⟨inner, hw⟩ := Kd.R_own h
  rcases hw.2 with ⟨rfl, _⟩ | ⟨g', cap, cur, rfl, _, hh, _⟩
  · simp [Value.ownBlock] at hj
  · have e : j = g' := by simpa [Value.ownBlock] using hj.symm
    subst e
    rw [hh] at ho
    cases ho
    rfl
theorem blk_putO {W : World} {l i : Nat} {o o' : Obj} {cs : Array Value} {t : TypeId} (h : W.heap[i]? = some (.cells cs t (0, 0))) (hl : W.heap[l]? = some o) (ho : o.isCells = false) : (W.putObj l o').heap[i]? = some (.cells cs t (0, 0)) :=
  (World.putObj_heap_other (fun e => by subst e; rw [h] at hl; cases hl; cases ho)).trans h
set_option maxRecDepth 100000 in
set_option maxHeartbeats 80000000 in
theorem text_range (s : ByteArray) (hs : s.size < 4294967281) (w : World) (ht : Env w) (hq : (s.toList == ([45] : List UInt8)) = false) :
    Calls Tryd.prog 21 #[.string s] w (TextPost (textR s) w) := by
  have hparts := fun n W => (callsIn_wide (n := n)).2 (parts_calls s W)
  refine (callsIn_wide (n := 4)).1 ?_
  refine callsIn_of_wp_marks Tryd.func21 rfl trivial ?_ rfl
  simp only [Tryd.ntmps21, List.size_toArray, List.length_cons, List.length_nil, Nat.reduceAdd, Nat.reduceSub, Array.replicate_succ, Array.replicate_zero, List.push_toArray, List.append_toArray, List.nil_append, List.cons_append]
  gi_wp2_with (refine ⟨trivial, ?_⟩; gi_at_call 33; refine (hparts _ _).mono ?_; rintro e_ w3 ⟨rfl, rfl⟩)
  obtain ⟨W3, hW3⟩ : ∃ W3, W3 = ((w.alloc (.cells #[.slice none 0 0] 23)).alloc (.cells #[.bool false] 4)).alloc (.cells #[.string s] 9) := ⟨_, rfl⟩
  rw [← hW3]
  have hsz : W3.heap.size = w.heap.size + 3 := by rw [hW3]; simp
  have hB0 : Below w.heap.size w W3 := by rw [hW3]; exact below_alloc (below_alloc (below_alloc (Below.refl _ w) _) _) _
  have hbl : W3.heap[w.heap.size]? = some (.cells #[.slice none 0 0] 23 (0, 0)) := by rw [hW3]; exact blk_alloc (blk_alloc (blk_new w _) _) _
  have hbb : W3.heap[w.heap.size + 1]? = some (.cells #[.bool false] 4 (0, 0)) := by rw [hW3]; have := blk_new (w.alloc (.cells #[.slice none 0 0] 23)) (.cells #[.bool false] 4); rw [World.size_alloc] at this; exact blk_alloc this _
  have hbs : W3.heap[w.heap.size + 2]? = some (.cells #[.string s] 9 (0, 0)) := by rw [hW3]; have := blk_new ((w.alloc (.cells #[.slice none 0 0] 23)).alloc (.cells #[.bool false] 4)) (.cells #[.string s] 9); rwa [World.size_alloc, World.size_alloc] at this
  have hE0 : Env W3 := env_mono ht hB0
  clear hW3
  refine range_parts (by decide) (w.heap.size + 2) s hs rfl rfl hbs
    (fun pre W => (∃ v, Kd.R k47 47 W w.heap.size (fun _ => True) v (pairsR pre) ∧ W.heap[w.heap.size]? = some (.cells #[v] 23 (0, 0))) ∧ W.heap[w.heap.size + 1]? = some (.cells #[.bool (badR pre)] 4 (0, 0)) ∧ Below w.heap.size w W ∧ ∃ u, W.heap[w.heap.size + 2]? = some (.cells #[u] 9 (0, 0)))
    ?hd ?hset ?henv ?hput ?h0 (fun x => { tmps := #[.string s, undef, .slice none 0 0, .pointer (some ⟨w.heap.size, 0, none⟩), .pointer (some ⟨w.heap.size + 1, 0, none⟩), .string x, undef, undef, .string s, .bool false, .string s, .func (.func 45) #[] #[.pointer (some ⟨w.heap.size + 1 + 1, 0, none⟩)], .string x, undef, undef, undef, undef, undef, undef, undef, undef, undef, undef, undef, undef, undef, undef, undef, undef, undef, undef, undef, undef, undef, undef, undef, undef, undef, undef], defers := [] }) ?assign ?body ?done
  case hd => exact fun pre W k ⟨⟨v, h1, h2⟩, h3, h4, ⟨u, h5⟩⟩ => ⟨⟨v, Kd.R_drewN h1 k, blk_drewN h2 k⟩, blk_drewN h3 k, pw_below_drewN h4 k, ⟨u, blk_drewN h5 k⟩⟩
  case hset =>
    intro pre W u ⟨⟨v, h1, h2⟩, h3, h4, ⟨u0, h5⟩⟩
    refine ⟨⟨v, Kd.R_set h1 h5 (by intro q hq; simp [k47, Kd.iso, Kd.pair, Kd.int, Kd.scalar] at hq; omega) 0 u, (Below.heap_setCell _ _ _ _ (by show w.heap.size ≠ w.heap.size + 2; omega)).trans h2⟩, (Below.heap_setCell _ _ _ _ (by show w.heap.size + 1 ≠ w.heap.size + 2; omega)).trans h3, h4.setCell (p := ⟨w.heap.size + 2, 0, none⟩) (by simp) u, ⟨u, blk_put h5 0 u rfl⟩⟩
  case henv => exact fun pre W h => env_mono ht h.2.2.1
  case hput =>
    intro pre W l o o' hl ho hc ⟨⟨v, h1, h2⟩, h3, h4, ⟨u, h5⟩⟩
    exact ⟨⟨v, R_put h1 ho hc, blk_putO h2 ho hc⟩, blk_putO h3 ho hc, h4.trans ((Below.refl _ W).grown (grownBy_putObj' W l o') (by have := h4.size; omega) (fun k e => by cases e; omega)), ⟨u, blk_putO h5 ho hc⟩⟩
  case h0 => exact fun r => ⟨⟨_, Kd.R_nil _ _ _ _ _, blk_alloc (blk_alloc hbl _) _⟩, blk_alloc (blk_alloc hbb _) _, below_alloc (below_alloc hB0 _) _, ⟨_, blk_alloc (blk_alloc hbs _) _⟩⟩
  case assign =>
    intro l x W K hK
    gi_wp2
    exact hK
  case body =>
    rintro lp pre x sc W ⟨⟨v, h1, h2⟩, h3, h4, h5⟩ hlen hx hb
    have hpair := fun n => (callsIn_wide (n := n)).2 (pair_any x (by omega) W (env_mono ht h4))
    have hps := pairsR_snoc pre x
    have hbd := badR_snoc pre x
    have hlp : (pairsR pre).length = pre.length := by simp [pairsR]
    generalize pairsR pre = ps at *
    generalize badR pre = bd at *
    generalize (pairR x).1 = p at *
    generalize (pairR x).2 = ok at *
    gi_upto_region 8 with (refine ⟨trivial, ?_⟩; gi_at_call 34; refine (CallsIn.inRound lp (hpair _)).mono ?_; rintro e_ w2 ⟨rfl, hb2⟩)
    have hk2 := (keeps_below hb2).trans (KeepsOthers.alloc w2 (.cells #[.int .u64 p.f0, .int .i64 p.f1] 47))
    have h14 := Kd.R_alloc (Kd.R_below h1 hb2) (.cells #[.int .u64 p.f0, .int .i64 p.f1] 47)
    have h24 := blk_alloc (blk_below h2 hb2) (.cells #[.int .u64 p.f0, .int .i64 p.f1] 47)
    have h34 := blk_alloc (blk_below h3 hb2) (.cells #[.int .u64 p.f0, .int .i64 p.f1] 47)
    have hb4 := blk_alloc (blk_below hb hb2) (.cells #[.int .u64 p.f0, .int .i64 p.f1] 47)
    have hp4 := blk_new w2 (.cells #[.int .u64 p.f0, .int .i64 p.f1] 47)
    have hB4 := below_alloc (below_step h4 hb2) (.cells #[.int .u64 p.f0, .int .i64 p.f1] 47)
    have hqs : w.heap.size + 2 < w2.heap.size := Nat.lt_of_lt_of_le (Array.getElem?_eq_some_iff.1 hb).1 hb2.size
    generalize w2.alloc (.cells #[.int .u64 p.f0, .int .i64 p.f1] 47) = W4 at *
    generalize w2.heap.size = q at *
    clear h1 h2 h3 h4 h5 hb hb2 hpair
    have hc3 := blk_cell h34 0
    have hf3 := blk_frozen h34 0
    simp only [List.getElem?_toArray, List.getElem?_cons_zero] at hc3
    obtain ⟨bn, hbn⟩ : ∃ bn, bn = (bd || !ok) := ⟨_, rfl⟩
    rw [← hbn] at hbd
    have HK2 := Aside0.mk hk2
    have H14 := Aside0.mk h14
    have H24 := Aside0.mk h24
    have H34 := Aside0.mk h34
    have HB4 := Aside0.mk hb4
    have HP4 := Aside0.mk hp4
    have HBW := Aside0.mk hB4
    have HBD := Aside0.mk hbd
    have HPS := Aside0.mk hps
    clear hk2 h14 h24 h34 hb4 hp4 hB4 hbd hps
    cases bd <;> cases ok
    all_goals
      simp only [Bool.or_false, Bool.or_true, Bool.not_true, Bool.not_false, Bool.false_or, Bool.true_or] at hbn
      gi_upto_region 9 with fail
      rw [← congrArg Value.bool hbn]
      have h15 := R_set2 (j := 0) (u := .bool bn) H14.out H34.out (by decide)
      have h25 := blk_far (b := w.heap.size + 1) (j := 0) (u := .bool bn) H24.out (by omega)
      have h35 := blk_put H34.out 0 (.bool bn) rfl
      have hb5 := blk_far (b := w.heap.size + 1) (j := 0) (u := .bool bn) HB4.out (by omega)
      have hp5 := blk_far (b := w.heap.size + 1) (j := 0) (u := .bool bn) HP4.out (by omega)
      have hB5 := HBW.out.setCell (p := ⟨w.heap.size + 1, 0, none⟩) (by simp) (.bool bn)
      have hk5 := HK2.out.trans (KeepsOthers.setCell W4 ⟨w.heap.size + 1, 0, none⟩ (.bool bn))
      generalize W4.setCell ⟨w.heap.size + 1, 0, none⟩ (.bool bn) = W5 at *
      obtain ⟨v1, w1, hap, h16, hg6⟩ := append1_run (p := p) h15 hB5.size (by omega) 23
      have h26 := (hg6.block _ (Array.getElem?_eq_some_iff.1 h25).1 (Kd.R_ne h15 h25 (by decide))).trans h25
      have h36 := (hg6.block _ (Array.getElem?_eq_some_iff.1 h35).1 (Kd.R_ne h15 h35 (by decide))).trans h35
      have hb6 := (hg6.block _ (Array.getElem?_eq_some_iff.1 hb5).1 (Kd.R_ne h15 hb5 (by decide))).trans hb5
      have hk6 := hk5.trans (KeepsOthers.of_grownBy hg6 (own_cells h15))
      have hB6 := hB5.grown hg6 hB5.size (fun k e => (Kd.R_own h15).elim fun _ hw => own_base hw k e)
      obtain ⟨Ax, cx, rfl⟩ := Kd.R_slice h16
      generalize hlx : (ps ++ [p]).length = lx at *
      clear hlp hlx
      have hcl := blk_cell h25 0
      have hcp0 := blk_cell hp5 0
      have hcp1 := blk_cell hp5 1
      have hcl6 := blk_cell h26 0
      have hfl6 := blk_frozen h26 0
      simp only [List.getElem?_toArray, List.getElem?_cons_zero, List.getElem?_cons_succ] at hcl hcp0 hcp1 hcl6
      have H16 := Aside0.mk h16
      have H26 := Aside0.mk h26
      have H36 := Aside0.mk h36
      have HB6 := Aside0.mk hb6
      have HBW6 := Aside0.mk hB6
      have HK6 := Aside0.mk hk6
      clear h16 h26 h36 hb6 hB6 hk6 hk5 hB5 hp5 hb5 h35 h25 h15 hg6
      gi_wp2_with (gi_at_builtin; refine wpListIn_app rfl (.tmp 23) (.tmp 25) 23 rfl _ _ rfl rfl hap ?_)
      have h17 := R_set2 (j := 0) (u := .slice Ax lx cx) H16.out H26.out (by decide)
      have h27 := blk_put H26.out 0 (.slice Ax lx cx) rfl
      have h37 := blk_far (b := w.heap.size) (j := 0) (u := .slice Ax lx cx) H36.out (by omega)
      have hb7 := blk_far (b := w.heap.size) (j := 0) (u := .slice Ax lx cx) HB6.out (by omega)
      refine ⟨HK6.out.trans (KeepsOthers.setCell _ _ _), ⟨⟨_, by rw [HPS.out]; exact h17, h27⟩, by rw [HBD.out]; exact h37, HBW6.out.setCell (p := ⟨w.heap.size, 0, none⟩) (Nat.le_refl _) _, ⟨_, hb7⟩⟩, hb7⟩
  case done =>
    rintro D W hD ⟨⟨v, h1, h2⟩, h3, h4, h5⟩ hK
    have hyes := fun n c W => (callsIn_wide (n := n)).2 (must_yes c W)
    have hno := fun n c W => (callsIn_wide (n := n)).2 (must_no c W)
    have hll : (pairsR (splitB 44 s)).length ≤ s.size + 1 := by unfold pairsR; rw [List.length_map]; exact splitB_length 44 s
    have hres : textR s = if (!(badR (splitB 44 s)) && fitL (pairsR (splitB 44 s))) = true then (if (pairsR (splitB 44 s)).length ≤ 16 then (0, pairsR (splitB 44 s)) else (6, [])) else (11, []) := by
      unfold textR
      rw [if_neg (by rw [hq]; decide)]
    generalize pairsR (splitB 44 s) = l at *
    generalize badR (splitB 44 s) = bd at *
    obtain ⟨A4, c4, rfl, hl4, hr4⟩ := Kd.R_reads h1
    have hfv := label_val l (by omega) (l.length + 1) (by omega)
    have hfit := fun n => (callsIn_wide (n := n)).2 (label_Fit.calls (l.length + 1) A4 c4 l _ W hr4 hl4 hfv)
    generalize fitL l = fb at *
    have hc2 := blk_cell h2 0
    have hc3 := blk_cell h3 0
    simp only [List.getElem?_toArray, List.getElem?_cons_zero] at hc2 hc3
    have HP : ∀ (tm : Array Value) (r : Int × List S47) (W1 : World), Below W.heap.size W W1 → r.1 ≠ 0 → LeavesInM Fence.wide 4 Tryd.prog Tryd.f21 tm (TextPost r w) [{ target := .collected D, args := #[] }] (.panicking (thrown r.1)) W1 := by
      intro tm r W1 hb hr
      have hK1 := (hb.block D (Array.getElem?_eq_some_iff.1 hK).1).trans hK
      refine ⟨by simp, .inl ⟨_, _, rfl, run_takeDeferred hK1, ?_⟩⟩
      exact ⟨.inr ⟨hr, rfl⟩, (below_step h4 hb).trans ((Below.refl _ W1).grown (grownBy_putObj' W1 D (.deferred none)) (by have := (below_step h4 hb).size; omega) (fun k e => by cases e; omega))⟩
    have HH := Aside0.mk HP
    have HV := Aside0.mk h1
    have H2 := Aside0.mk h2
    have HB := Aside0.mk h4
    have HRS := Aside0.mk hres
    have HKD := Aside0.mk hK
    clear HP h1 h2 h3 h4 h5 hK hres hfv hr4 hl4 hll
    cases bd
    · cases fb
      · gi_wp2_with (first | (refine ⟨trivial, ?_⟩; gi_at_call 23; refine (hfit _).mono ?_; rintro e_ w4 ⟨rfl, hb4⟩; have hc24 := blk_cell (blk_below H2.out hb4) 0; simp only [List.getElem?_toArray, List.getElem?_cons_zero] at hc24) | (refine ⟨trivial, ?_⟩; gi_at_call 35; (with_reducible refine (hno _ _ _).mono ?_); rintro e_ w5 ⟨rfl, rfl⟩))
        have := HRS.out
        simp only [Bool.not_false, Bool.true_and, Bool.false_eq_true, if_false] at this
        rw [this]
        exact HH.out _ (11, []) _ hb4 (by decide)
      · by_cases hle : l.length ≤ 16
        · have hd : decide ((l.length : Int) ≤ 16) = true := decide_eq_true (by omega)
          gi_wp2_with (first | (refine ⟨trivial, ?_⟩; gi_at_call 23; refine (hfit _).mono ?_; rintro e_ w4 ⟨rfl, hb4⟩; have hc24 := blk_cell (blk_below H2.out hb4) 0; simp only [List.getElem?_toArray, List.getElem?_cons_zero] at hc24) | (refine ⟨trivial, ?_⟩; gi_at_call 35; (with_reducible refine (hyes _ _ _).mono ?_); rintro e_ w5 ⟨rfl, rfl⟩))
          have := HRS.out
          simp only [Bool.not_false, Bool.true_and, if_true, if_pos hle] at this
          rw [this]
          have hK1 := (hb4.block D (Array.getElem?_eq_some_iff.1 HKD.out).1).trans HKD.out
          refine ⟨by simp, .inl ⟨_, _, rfl, run_takeDeferred hK1, ?_⟩⟩
          refine ⟨.slice A4 l.length c4, ?_, .inl ⟨_, rfl, rfl, R_put (Kd.R_below HV.out hb4) hK1 rfl⟩, (below_step HB.out hb4).trans ((Below.refl _ _).grown (grownBy_putObj' _ D (.deferred none)) (by have := (below_step HB.out hb4).size; omega) (fun k e => by cases e; omega))⟩
          simp [results, Tryd.f21, go_sem]
        · have hd : decide ((l.length : Int) ≤ 16) = false := decide_eq_false (by omega)
          gi_wp2_with (first | (refine ⟨trivial, ?_⟩; gi_at_call 23; refine (hfit _).mono ?_; rintro e_ w4 ⟨rfl, hb4⟩; have hc24 := blk_cell (blk_below H2.out hb4) 0; simp only [List.getElem?_toArray, List.getElem?_cons_zero] at hc24) | (refine ⟨trivial, ?_⟩; gi_at_call 35; first | ((with_reducible refine (hyes _ _ _).mono ?_); rintro e_ w5 ⟨rfl, rfl⟩) | ((with_reducible refine (hno _ _ _).mono ?_); rintro e_ w5 ⟨rfl, rfl⟩)))
          have := HRS.out
          simp only [Bool.not_false, Bool.true_and, if_true, if_neg hle] at this
          rw [this]
          exact HH.out _ (6, []) _ hb4 (by decide)
    · gi_wp2_with (first | (refine ⟨trivial, ?_⟩; gi_at_call 23; refine (hfit _).mono ?_; rintro e_ w4 ⟨rfl, hb4⟩; have hc24 := blk_cell (blk_below H2.out hb4) 0; simp only [List.getElem?_toArray, List.getElem?_cons_zero] at hc24) | (refine ⟨trivial, ?_⟩; gi_at_call 35; (with_reducible refine (hno _ _ _).mono ?_); rintro e_ w5 ⟨rfl, rfl⟩) | (refine ⟨trivial, ?_⟩))
      have := HRS.out
      simp only [Bool.not_true, Bool.false_and, Bool.false_eq_true, if_false] at this
      rw [this]
      exact HH.out _ (11, []) _ (Below.refl _ _) (by decide)
end Go.Proofs.YtjcjfeoipcbdoaaDoor.X
