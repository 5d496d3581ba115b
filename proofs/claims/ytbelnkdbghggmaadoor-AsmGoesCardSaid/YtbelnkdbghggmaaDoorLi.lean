/- Contract of asm.List: a program's words as a text. -/
import Derived.Test.YtbelnkdbghggmaaDoorIh
import Derived.Test.YtbelnkdbghggmaaDoorIj
namespace Go.Proofs.YtbelnkdbghggmaaDoor.X
open Go.RowKit Go.Proofs.YtbelnkdbghggmaaDoorW.PrintWords Go.Proofs.YtbelnkdbghggmaaDoorW.PrintLast
set_option linter.unusedVariables false
set_option linter.unusedSimpArgs false
/-- What the library's variables hold: the table of powers of ten, a length. -/
structure Env (w : World) : Prop where
  tab : Tab w
  mlen : ∃ m : Int, w.cell? ⟨0, 0, none⟩ = some (.int .i64 m)
theorem env_mono {w w' : World} (h : Env w) (hb : Below w.heap.size w w') : Env w' :=
  ⟨tab_mono h.tab hb, let ⟨m, e⟩ := h.mlen; ⟨m, (hb.cell (p := ⟨0, 0, none⟩) (by
     unfold World.cell? at e
     rcases Nat.lt_or_ge 0 w.heap.size with h' | h'
     · exact h'
     · simp [Array.getElem?_eq_none h'] at e)).trans e⟩⟩
def decV (x : Int) : Int × Int × Int × Int × Int × Bool := (inst_Decode.f x).getD (0, 0, 0, 0, 0, false)
theorem decI_bd (x : Int) : -2147483648 ≤ decI x ∧ decI x ≤ 2147483647 := by
  unfold decI
  rw [IntKind.wrap_i32]
  omega
theorem dec_val (x : Int) : inst_Decode.f x = some (decV x) := by
  have he := decI_bd x
  have h1 : inst_Fit.f (decOp x) (decA x) (decB x) (decC x) (decI x) = some (fitB (decOp x) (decA x) (decB x) (decC x) (decI x)) := by unfold inst_Fit.f; rw [if_pos he]
  unfold decV inst_Decode.f
  rw [h1]
  simp only [Option.bind_some]
  split
  · unfold inst_Encode.f
    rw [h1]
    simp only [Option.bind_some]
    split <;> simp only [Option.bind_some] <;> split <;> rfl
  · rfl
theorem dec_imm (x : Int) : -2147483648 ≤ (decV x).2.2.2.2.1 ∧ (decV x).2.2.2.2.1 ≤ 2147483647 := by
  have h := dec_val x
  have he := decI_bd x
  generalize decV x = d at *
  unfold inst_Decode.f at h
  obtain ⟨t, ht, h⟩ := Option.bind_eq_some_iff.1 h
  split at h
  · obtain ⟨e, _, h⟩ := Option.bind_eq_some_iff.1 h
    split at h
    · cases h; exact he
    · cases h; exact ⟨by decide, by decide⟩
  · cases h; exact ⟨by decide, by decide⟩
/-- An instruction's text. -/
def txtV (op a b c e : Int) : ByteArray := if fitB op a b c e = true then textP op a b c e (List.range 4) else ByteArray.empty
theorem txt_val (op a b c e : Int) (he : -2147483648 ≤ e ∧ e ≤ 2147483647) : inst_Text.f op a b c e = some (txtV op a b c e) := by
  unfold inst_Text.f inst_Fit.f txtV
  rw [if_pos he]
  simp only [Option.bind_some]
  split <;> rfl
theorem txt_size (op a b c e : Int) (he : -2147483648 ≤ e ∧ e ≤ 2147483647) : (txtV op a b c e).size ≤ 100 := by
  unfold txtV
  split
  · rename_i h
    unfold fitB at h
    rw [Bool.and_eq_true] at h
    have := textP_size op a b c e (num_bd op a b c e he h.2) 4 (List.range 4) rfl
    omega
  · decide
/-- A word's line. -/
def lineW (x : Int) : ByteArray := if (decV x).2.2.2.2.2 = true then txtV (decV x).1 (decV x).2.1 (decV x).2.2.1 (decV x).2.2.2.1 (decV x).2.2.2.2.1 ++ ⟨#[10]⟩ else (⟨#[63]⟩ : ByteArray) ++ ⟨#[10]⟩
theorem lineW_size (x : Int) : (lineW x).size ≤ 101 := by
  unfold lineW
  split
  · have := txt_size (decV x).1 (decV x).2.1 (decV x).2.2.1 (decV x).2.2.2.1 (decV x).2.2.2.2.1 (dec_imm x)
    rw [bsize_append]
    have : (⟨#[10]⟩ : ByteArray).size = 1 := rfl
    omega
  · decide +kernel
def listB (ws : List Int) : List UInt8 := ws.flatMap fun x => (lineW x).data.toList
theorem listB_snoc (ws : List Int) (x : Int) : listB (ws ++ [x]) = listB ws ++ (lineW x).data.toList := by simp [listB]
theorem listB_length (ws : List Int) : (listB ws).length ≤ 101 * ws.length := by
  induction ws with
  | nil => simp [listB]
  | cons x r ih =>
    have := lineW_size x
    have h2 : (lineW x).data.toList.length = (lineW x).size := data_length _
    simp only [listB, List.flatMap_cons, List.length_append, List.length_cons] at *
    omega
abbrev Bld (B : Nat) (l : List UInt8) (w : World) : Prop := Lib.IsBuilder 52 5 B B (Lib.byteCells l) w
theorem bld_below {B : Nat} {l : List UInt8} {w w' : World} (h : Bld B l w) (hb : Below w.heap.size w w') : Bld B l w' := by
  have key : ∀ p, Lib.BuilderAt 52 5 B B p (Lib.byteCells l) w → Lib.BuilderAt 52 5 B B p (Lib.byteCells l) w' := fun p ⟨h0, v, h1, h2, h3⟩ =>
    ⟨h0, v, (hb.block B (Array.getElem?_eq_some_iff.1 h1).1).trans h1, World.ownsRow.kept h2 (grown_of_below hb none) (by cases v.ownBlock <;> simp), h3⟩
  exact h.imp (key _) (key _)
theorem write_any (B : Nat) (l : List UInt8) (s : ByteArray) (w : World) (h : Bld B l w) (hlen : l.length + s.size ≤ 140737488355328) (hBw : B ≤ w.heap.size) :
    Calls Tryd.prog 17 #[.pointer (some ⟨B, 0, none⟩), .string s] w fun e w' => e = .returned (.tuple #[.int .i64 s.size, .nilIface]) ∧ Bld B (l ++ s.data.toList) w' ∧ Below B w w' := by
  have e1 : Lib.byteCells (l ++ s.data.toList) = Lib.byteCells l ++ Lib.strCells s := by rw [Lib.strCells_eq]; simp [Lib.byteCells]
  refine (Tryd.Builder_WriteString B B (Lib.byteCells l) s w h (by rw [Lib.byteCells_length]; exact hlen) hBw).mono fun e w' ⟨he, hb, hw⟩ => ⟨he, ?_, hw⟩
  rw [Bld, e1]
  exact .inr hb
theorem take_snocI (ws : List Int) (k : Nat) (hk : k < ws.length) : ws.take (k + 1) = ws.take k ++ [rd ws (k : Int)] := by
  rw [List.take_succ_eq_append_getElem hk]
  simp [rd, List.getD_eq_getElem?_getD, hk]
set_option maxRecDepth 100000 in
set_option maxHeartbeats 8000000 in
theorem List_any (A : Option Addr) (c : Nat) (ws : List Int) (w : World) (hr : Kd.C (Kd.int .u64) w A ws.length ws) (hl : ws.length ≤ 1099511627) (ht : Tab w) :
    Calls Tryd.prog 9 #[.slice A ws.length c] w fun e w' => e = .returned (.string ⟨(listB ws).toArray⟩) ∧ Below w.heap.size w w' := by
  have HR := Aside0.mk hr
  have HT := Aside0.mk ht
  have hmax := Kd.C_max hr
  have hu26 := Tryd.underlying26
  clear hr ht
  go_enter Tryd.func9, Tryd.ntmps9
  go_wp2
  go_loopw [11] (fun i wr => ∃ k : Nat, k ≤ ws.length ∧ i = .int .i64 k ∧ Aside0 (Bld w.heap.size (listB (ws.take k)) wr) ∧ Aside0 (Below w.heap.size w wr)) (fun i _ => ws.length - (intOf i).toNat)
  case atStart => exact ⟨0, Nat.zero_le _, rfl, ⟨Lib.fresh_isBuilder 52 5 w⟩, ⟨below_alloc (Below.refl _ _) _⟩⟩
  case round =>
    obtain ⟨k, hk, rfl, HO, HB⟩ := hrel
    by_cases hlt : k < ws.length
    · obtain ⟨ad, e1, hx⟩ := Kd.at_int HR.out (k : Int) (by omega) (by omega)
      cases e1
      replace hx := (HB.out.cell (World.block_lt_of_cell? w _ hx)).trans hx
      rw [Int.toNat_natCast] at hx
      have hts := take_snocI ws k hlt
      have hls := listB_snoc (ws.take k) (rd ws (k : Int))
      rw [← hts] at hls
      have hln : lineW (rd ws (k : Int)) = (if (decV (rd ws (k : Int))).2.2.2.2.2 = true then txtV (decV (rd ws (k : Int))).1 (decV (rd ws (k : Int))).2.1 (decV (rd ws (k : Int))).2.2.1 (decV (rd ws (k : Int))).2.2.2.1 (decV (rd ws (k : Int))).2.2.2.2.1 ++ ⟨#[10]⟩ else (⟨#[63]⟩ : ByteArray) ++ ⟨#[10]⟩) := rfl
      have hll := listB_length (ws.take k)
      rw [List.length_take] at hll
      have hdv := dec_val (rd ws (k : Int))
      have him := dec_imm (rd ws (k : Int))
      have htx := txt_val (decV (rd ws (k : Int))).1 (decV (rd ws (k : Int))).2.1 (decV (rd ws (k : Int))).2.2.1 (decV (rd ws (k : Int))).2.2.2.1 (decV (rd ws (k : Int))).2.2.2.2.1 him
      have hsz := txt_size (decV (rd ws (k : Int))).1 (decV (rd ws (k : Int))).2.1 (decV (rd ws (k : Int))).2.2.1 (decV (rd ws (k : Int))).2.2.2.1 (decV (rd ws (k : Int))).2.2.2.2.1 him
      generalize rd ws (k : Int) = x at *
      generalize txtV (decV x).1 (decV x).2.1 (decV x).2.2.1 (decV x).2.2.2.1 (decV x).2.2.2.2.1 = tx at *
      generalize hd : decV x = d at *
      obtain ⟨d1, d2, d3, d4, d5, dok⟩ := d
      have hL : (listB (ws.take k)).length ≤ 101 * 1099511627 := Nat.le_trans hll (by omega)
      generalize listB (ws.take k) = L at *
      generalize hL1 : listB (ws.take (k + 1)) = L1 at *
      have HLS := Aside0.mk hls
      have HLN := Aside0.mk hln
      have HDV := Aside0.mk hdv
      have HTX := Aside0.mk htx
      have HL1 := Aside0.mk hL1
      clear hls hln hdv htx hll hts hd him hL1
      cases dok with
      | true =>
        go_wp2_with (first
          | (go_at_call 15; (with_reducible refine (inst_Decode.calls _ _ _ _ _ _ _ _ HDV.out).mono ?_); rintro e_ w1 ⟨rfl, hb1⟩)
          | (go_at_call 16; (with_reducible refine (inst_Text.calls _ _ _ _ _ _ _ (tab_mono HT.out (by first | exact below_step (HB.out) (below_step (below_alloc hb1 _) (Below.refl _ _)) | exact below_step HB.out (below_alloc hb1 _))) HTX.out).mono ?_); rintro e_ w2 ⟨rfl, hb2⟩))
        have hc1 : Below wr.heap.size wr w2 := below_step (below_alloc hb1 _) hb2
        have hO2 := bld_below HO.out hc1
        have hs2 := hc1.size
        have hs0 := HB.out.size
        have hlen : (tx ++ (⟨#[10]⟩ : ByteArray)).size = tx.size + 1 := bsize_append _ _
        have hw := write_any w.heap.size L (tx ++ ⟨#[10]⟩) w2 hO2 (by rw [hlen]; omega) (by omega)
        have HW := Aside0.mk hw
        have HB2 := Aside0.mk (HB.out.trans (hc1.mono hs0))
        clear hO2 hw hc1 hb1 hb2 hlen
        refine HW.out.mono ?_
        rintro e_ w3 ⟨rfl, ho3, hb3⟩
        have HO3 := Aside0.mk ho3
        have HB3 := Aside0.mk (HB2.out.trans hb3)
        clear ho3 hb3
        go_wp2
        go_roundw
        case rel => exact ⟨k + 1, by omega, by go_num, ⟨by rw [HL1.out, HLS.out, HLN.out]; exact HO3.out⟩, ⟨HB3.out⟩⟩
        case measure => simp [intOf]; omega
      | false =>
        have hs0 := HB.out.size
        have qm_len : L.length + ((⟨#[63]⟩ : ByteArray) ++ ⟨#[10]⟩).size ≤ 140737488355328 := by
          have : ((⟨#[63]⟩ : ByteArray) ++ ⟨#[10]⟩).size = 2 := by decide +kernel
          omega
        have QM := Aside0.mk qm_len
        clear qm_len
        go_wp2_with (first
          | (go_at_call 15; (with_reducible refine (inst_Decode.calls _ _ _ _ _ _ _ _ HDV.out).mono ?_); rintro e_ w1 ⟨rfl, hb1⟩; have hc1 := below_alloc hb1 (.cells #[.int .i64 d1, .int .i64 d2, .int .i64 d3, .int .i64 d4, .int .i32 d5] 26); have hO2 := bld_below HO.out hc1; have hs2 := hc1.size; have HO2 := Aside0.mk hO2; have HC1 := Aside0.mk hc1; clear hO2 hc1 hb1)
          | (go_at_call 17; (with_reducible refine (write_any w.heap.size L ((⟨#[63]⟩ : ByteArray) ++ ⟨#[10]⟩) _ HO2.out QM.out (by omega)).mono ?_); rintro e_ w3 ⟨rfl, ho3, hb3⟩; have HO3 := Aside0.mk ho3; have HB3 := Aside0.mk ((HB.out.trans (HC1.out.mono hs0)).trans hb3); clear ho3 hb3))
        go_roundw
        case rel => exact ⟨k + 1, by omega, by go_num, ⟨by rw [HL1.out, HLS.out, HLN.out]; exact HO3.out⟩, ⟨HB3.out⟩⟩
        case measure => simp [intOf]; omega
    · obtain rfl : k = ws.length := by omega
      have hO := HO.out
      rw [List.take_length] at hO
      have HO1 := Aside0.mk hO
      have hsB := HB.out.size
      clear hO
      go_wp2_with (go_at_call 18; (with_reducible refine (Tryd.Builder_String_any w.heap.size w.heap.size (listB ws) _ HO1.out hsB).mono ?_); rintro e_ w3 ⟨rfl, hb3⟩)
      go_ret
      exact ⟨rfl, HB.out.trans hb3⟩
def asm_List.f (a0 : List Int) : Option ByteArray := if a0.length ≤ 1099511627 then some ⟨(listB a0).toArray⟩ else none
theorem asm_List.calls (A0 : Option Addr) (c0 : Nat) (l0 : List Int) (r : ByteArray) (w : World) (ht : Env w) (hr0 : Kd.C (Kd.int .u64) w A0 l0.length l0) (hc0 : l0.length ≤ c0) (h : asm_List.f l0 = some r) :
    Calls Tryd.prog 9 #[.slice A0 l0.length c0] w fun e w' => e = .returned (.string r) ∧ Below w.heap.size w w' := by
  unfold asm_List.f at h
  split at h
  · rename_i hl
    obtain rfl := Option.some.inj h
    exact List_any A0 c0 l0 w hr0 hl ht.tab
  · cases h
end Go.Proofs.YtbelnkdbghggmaaDoor.X
