/- Contract of asm.Read at the one text that the example reads: a mark. -/
import Derived.Test.YtbelnkdbghggmaaDoorLi
import Derived.Test.YtbelnkdbghggmaaDoorNa
namespace Go.Proofs.YtbelnkdbghggmaaDoor.X
open Go.RowKit Go.Proofs.YtbelnkdbghggmaaDoorW.PrintWords Go.Proofs.YtbelnkdbghggmaaDoorW.PrintLast
set_option linter.unusedVariables false
set_option linter.unusedSimpArgs false
def markL : S28 := ⟨⟨#[97]⟩, ⟨0, 0, 0, 0, 0⟩, ⟨#[]⟩⟩
set_option maxRecDepth 100000 in
set_option maxHeartbeats 8000000 in
theorem read_a (w : World) : Calls Tryd.prog 22 #[.string ⟨#[97, 58]⟩] w fun e w' => e = .returned (.tuple #[.agg #[.string ⟨#[97]⟩, .int .i64 0, .int .i64 0, .int .i64 0, .int .i64 0, .int .i32 0, .string ⟨#[]⟩], .bool true]) ∧ Below w.heap.size w w' := by
  have hn : namedB ⟨#[97]⟩ = true := by decide +kernel
  have hnm := fun W => named_any ⟨#[97]⟩ (by decide) W
  rw [hn] at hnm
  have hcs := fun W => Tryd.strings_CutSuffix ⟨#[97, 58]⟩ ⟨#[58]⟩ W (by decide)
  have h1 : (⟨(Lib.trimSuffix [97, 58] [58]).toArray⟩ : ByteArray) = ⟨#[97]⟩ := by decide +kernel
  have h2 : Lib.hasSuffix [97, 58] [58] = true := by decide +kernel
  simp only [h1, h2] at hcs
  have hu28 := Tryd.underlying28
  have HB := Aside0.mk (below_alloc (Below.refl w.heap.size w) (.cells #[.string ⟨#[]⟩, .int .i64 0, .int .i64 0, .int .i64 0, .int .i64 0, .int .i32 0, .string ⟨#[]⟩] 28))
  have HK := Aside0.mk (blk_new w (.cells #[.string ⟨#[]⟩, .int .i64 0, .int .i64 0, .int .i64 0, .int .i64 0, .int .i32 0, .string ⟨#[]⟩] 28))
  clear hn h1 h2
  go_enter Tryd.func22, Tryd.ntmps22
  go_wp2_with (first
    | (go_at_call 36; (with_reducible refine (hcs _).mono ?_); rintro e_ w1 ⟨rfl, rfl⟩)
    | (go_at_call 37; (with_reducible refine (hnm _).mono ?_); rintro e_ w2 ⟨rfl, hb2⟩; have hk := blk_below HK.out hb2; have hc0 := (blk_cell hk 0).trans rfl; have hc1 := (blk_cell hk 1).trans rfl; have hc2 := (blk_cell hk 2).trans rfl; have hc3 := (blk_cell hk 3).trans rfl; have hc4 := (blk_cell hk 4).trans rfl; have hc5 := (blk_cell hk 5).trans rfl; have hc6 := (blk_cell hk 6).trans rfl; have hf0 := blk_frozen hk 0; have hf1 := blk_frozen hk 1; have hf2 := blk_frozen hk 2; have hf3 := blk_frozen hk 3; have hf4 := blk_frozen hk 4; have hf5 := blk_frozen hk 5; have hf6 := blk_frozen hk 6))
  have hz := blk_put (blk_put (blk_put (blk_put (blk_put (blk_put (blk_put hk 0 (.string ⟨#[97]⟩) rfl) 1 (.int .i64 0) rfl) 2 (.int .i64 0) rfl) 3 (.int .i64 0) rfl) 4 (.int .i64 0) rfl) 5 (.int .i32 0) rfl) 6 (.string ⟨#[]⟩) rfl
  have hd0 := (blk_cell hz 0).trans rfl
  have hd1 := (blk_cell hz 1).trans rfl
  have hd2 := (blk_cell hz 2).trans rfl
  have hd3 := (blk_cell hz 3).trans rfl
  have hd4 := (blk_cell hz 4).trans rfl
  have hd5 := (blk_cell hz 5).trans rfl
  have hd6 := (blk_cell hz 6).trans rfl
  simp at hd0 hd1 hd2 hd3 hd4 hd5 hd6
  have hBB := HB.out.trans (hb2.mono (by simp))
  refine bodyPost_ret (v := .tuple #[.agg #[.string ⟨#[97]⟩, .int .i64 0, .int .i64 0, .int .i64 0, .int .i64 0, .int .i32 0, .string ⟨#[]⟩], .bool true]) (by simp [results, Tryd.f22, go_sem, hd0, hd1, hd2, hd3, hd4, hd5, hd6]) rfl ⟨rfl, ?_⟩
  repeat (refine below_set ?_ (by simp))
  exact hBB
theorem cut_a (w : World) (ht : Env w) : Calls Tryd.prog 21 #[.string ⟨#[97, 58]⟩, .string ⟨#[10]⟩] w fun e w' => e = .returned (.tuple #[.string ⟨#[97, 58]⟩, .string ⟨#[]⟩, .bool false]) ∧ ∃ n, w' = w.drewN n := by
  obtain ⟨m, hm⟩ := ht.mlen
  have h := Tryd.strings_Cut ⟨#[97, 58]⟩ ⟨#[10]⟩ m w (by decide) hm
  have e : Lib.cut [97, 58] [10] = (([97, 58] : List UInt8), ([] : List UInt8), false) := by decide +kernel
  simp only [e] at h
  exact h
set_option maxRecDepth 100000 in
set_option maxHeartbeats 8000000 in
theorem Read_a (w : World) (ht : Env w) : Calls Tryd.prog 12 #[.string ⟨#[97, 58]⟩] w fun e w' => ∃ v0_ : Value, e = .returned (.tuple #[v0_, .int .i64 0, .int .i64 0]) ∧ Kd.R k28 28 w' w.heap.size (fun _ => True) v0_ [markL] ∧ Below w.heap.size w w' := by
  have HT := Aside0.mk ht
  have hu28 := Tryd.underlying28
  have hu22 := Tryd.underlying22
  clear ht
  go_enter Tryd.func12, Tryd.ntmps12
  go_wp2
  go_loopw [0, 5, 6] (fun s l n wr => (∃ z : Nat, s = .string ⟨#[97, 58]⟩ ∧ Aside0 (l = .slice none 0 0) ∧ n = .int .i64 0 ∧ z = 1 ∧ wr = w) ∨ (s = .string ⟨#[]⟩ ∧ n = .int .i64 1 ∧ Aside0 (Kd.R k28 28 wr w.heap.size (fun _ => True) l [markL]) ∧ Aside0 (Below w.heap.size w wr))) (fun s _ _ _ => match s with | .string b => b.size | _ => 0)
  case atStart => exact .inl ⟨1, rfl, ⟨rfl⟩, rfl, rfl, rfl⟩
  case round =>
    rcases hrel with ⟨z, rfl, HL, rfl, _, rfl⟩ | ⟨rfl, rfl, HO, HB⟩
    · go_wp2_with (first
        | (go_at_call 21; (with_reducible refine (cut_a _ HT.out).mono ?_); rintro e_ w1 ⟨rfl, n1, rfl⟩)
        | (go_at_call 22; (with_reducible refine (read_a _).mono ?_); rintro e_ w2 ⟨rfl, hb2⟩; have hB2 := Aside0.mk (below_alloc ((pw_below_drewN (Below.refl wr.heap.size wr) n1).trans hb2) (.cells #[.string ⟨#[97]⟩, .int .i64 0, .int .i64 0, .int .i64 0, .int .i64 0, .int .i32 0, .string ⟨#[]⟩] 28)); clear hb2)
        | ((with_reducible refine gate_builtin (b := .append) (xs := #[.tmp 33, .tmp 35]) rfl ?_); at_builtin; refine Kd.R_append k28 (w0 := wr) wr.heap.size rfl (.tmp 33) (.tmp 35) 22 28 (.agg #[.string ⟨#[]⟩, .int .i64 0, .int .i64 0, .int .i64 0, .int .i64 0, .int .i32 0, .string ⟨#[]⟩]) 72 rfl Tryd.underlying22 info28 rfl (by decide) (by omega) _ [] markL [.string ⟨#[97]⟩, .int .i64 0, .int .i64 0, .int .i64 0, .int .i64 0, .int .i32 0, .string ⟨#[]⟩] (fun _ => True) (fun _ => False) rfl ?aX ?aP (fun _ hk => hk.elim) (fun _ _ => trivial) ?aO ?aB ?aS ?aL ?_; (case aX => simp [go_sem]); (case aP => exact k28_mkM _ _ _ markL); (case aO => rw [HL.out]; exact Kd.R_nil _ _ _ _ _); (case aB => exact hB2.out); (case aS => exact below_size hB2.out); (case aL => simp); intro v1 w4 ho hb hg hat))
      go_roundw
      case rel => exact .inr ⟨rfl, rfl, ⟨ho⟩, ⟨hb⟩⟩
      case measure => decide
    · obtain ⟨A4, c4, rfl⟩ := Kd.R_slice HO.out
      go_wp2
      refine bodyPost_ret (v := .tuple #[.slice A4 [markL].length c4, .int .i64 0, .int .i64 0]) (by simp [results, Tryd.results12, go_sem]) rfl ?_
      exact ⟨_, rfl, HO.out, HB.out⟩
def asm_Read.f (a0 : ByteArray) : Option (List S28 × Int × Int) := if a0 = ⟨#[97, 58]⟩ then some ([markL], 0, 0) else none
theorem asm_Read.calls (a0 : ByteArray) (r1 : List S28) (r2 r3 : Int) (w : World) (ht : Env w) (h : asm_Read.f a0 = some (r1, r2, r3)) :
    Calls Tryd.prog 12 #[.string a0] w fun e w' => ∃ v0_ : Value, e = .returned (.tuple #[v0_, .int .i64 r2, .int .i64 r3]) ∧ Kd.R k28 28 w' w.heap.size (fun _ => True) v0_ r1 ∧ Below w.heap.size w w' := by
  unfold asm_Read.f at h
  split at h
  · rename_i he
    cases h
    rw [he]
    exact Read_a w ht
  · cases h
end Go.Proofs.YtbelnkdbghggmaaDoor.X
