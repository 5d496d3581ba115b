/- The plain law of InstTells, and the call. -/
import Derived.Test.YtnebgpegkihgdaaDoorPuC
import Derived.Test.YtnebgpegkihgdaaDoorXx6
namespace Go.Proofs.YtnebgpegkihgdaaDoor.X
open Go.RowKit Go.Proofs.YtnebgpegkihgdaaDoorW.PrintWords
set_option linter.unusedVariables false
set_option linter.unusedSimpArgs false
theorem rEncode (K : Nat) (hK : 10 ≤ K) (op a b c e : Int) : curtilageref08_Encode.f K op a b c e = some (if fitB op a b c e = true then encS op a b c e else 0) := by
  unfold curtilageref08_Encode.f
  rw [rFit K hK]
  simp only [Option.bind_some]
  by_cases h : fitB op a b c e = true
  · obtain ⟨h0, h1, h2, h3, h4, h5, h6, h7⟩ := fitB_regs h
    rw [if_pos h, if_pos h]
    have w : ∀ n : Int, 0 ≤ n → n < 18446744073709551616 → IntKind.u64.wrap n = n := fun n h0 h1 => by rw [IntKind.wrap_u64]; omega
    rw [w op (by omega) (by omega), w a (by omega) (by omega), w b (by omega) (by omega), w c (by omega) (by omega), w (a * 256) (by omega) (by omega), w (b * 4096) (by omega) (by omega), w (c * 65536) (by omega) (by omega), w (op + a * 256) (by omega) (by omega), w (op + a * 256 + b * 4096) (by omega) (by omega), w (op + a * 256 + b * 4096 + c * 65536) (by omega) (by omega), w _ (by omega) (by omega)]
    unfold encS
    congr 1
    omega
  · rw [if_neg h, if_neg h]
theorem enc_iff (x op a b c e : Int) (hx : 0 ≤ x ∧ x ≤ 18446744073709551615) (h1 : op = x % 256) (h2 : a = x / 256 % 16) (h3 : b = x / 4096 % 16) (h4 : c = x / 65536 % 16) (h5 : e % 4294967296 = x / 4294967296) : encS op a b c e = x ↔ x / 1048576 % 4096 = 0 := by
  unfold encS
  rw [h5, h1, h2, h3, h4]
  clear h1 h2 h3 h4 h5
  omega
theorem rDecode (K : Nat) (hK : 10 ≤ K) (x : Int) (hx : 0 ≤ x ∧ x ≤ 18446744073709551615) : curtilageref08_Decode.f K x = inst_Decode.f x := by
  rw [Decode_val x hx]
  obtain ⟨p1, p2, p3, p4, p5, p6⟩ := dec_parts x hx
  have hi := enc_iff x (decOp x) (decA x) (decB x) (decC x) (decI x) hx p1 p2 p3 p4 p6
  unfold curtilageref08_Decode.f
  rw [show (4095 : Int) = 2 ^ 12 - 1 from rfl, and_mask 12 (by decide) (x / 1048576) (by omega) (by omega), show (2 : Int) ^ 12 = 4096 from rfl, rFit K hK]
  have e0 : wrap64 (Go.bits .and .u64 x 255) = decOp x := by
    unfold decOp
    generalize Go.bits .and .u64 x 255 = y
    rw [IntKind.wrap_i64]
    unfold wrap64
    rfl
  have e4 : wrap32 (x / 4294967296 % 4294967296) = decI x := by
    unfold decI
    rw [IntKind.wrap_i32]
    unfold wrap32
    omega
  rw [e0, e4, show wrap64 (Go.bits .and .u64 (x / 256) 15) = decA x from rfl, show wrap64 (Go.bits .and .u64 (x / 4096) 15) = decB x from rfl, show wrap64 (Go.bits .and .u64 (x / 65536) 15) = decC x from rfl]
  simp only [Option.bind_some]
  by_cases hu : x / 1048576 % 4096 = 0
  · rw [if_pos hu]
    by_cases hf : fitB (decOp x) (decA x) (decB x) (decC x) (decI x) = true
    · rw [if_pos hf, if_pos ⟨hf, hi.2 hu⟩]
    · rw [if_neg hf, if_neg (fun k => hf k.1)]
  · rw [if_neg hu, if_neg (fun k => hu (hi.1 k.2))]
theorem Decode_some (x : Int) (hx : 0 ≤ x ∧ x ≤ 18446744073709551615) : ∃ r, inst_Decode.f x = some r := by
  rw [Decode_val x hx]
  split <;> exact ⟨_, rfl⟩
theorem InstTells_val (op a b c e x : Int) (he : -2147483648 ≤ e ∧ e ≤ 2147483647) (hx : 0 ≤ x ∧ x ≤ 18446744073709551615) : curtilagelaw08_InstTells.f 60 op a b c e x = some true := by
  obtain ⟨⟨r1, r2, r3, r4, r5, r6⟩, hr⟩ := Decode_some x hx
  unfold curtilagelaw08_InstTells.f
  rw [rDecode 60 (by decide) x hx, hr, Fit_val _ _ _ _ _ he, rFit 60 (by decide), Encode_val _ _ _ _ _ he, rEncode 60 (by decide), Text_val _ _ _ _ _ he, rText 60 (by decide) _ _ _ _ _ he, rShape 60 (by decide), awake_val]
  simp only [Option.bind_some, inst_Shape.f]
  generalize fitB op a b c e = f
  generalize (if f = true then encS op a b c e else 0) = g
  generalize (if f = true then textP op a b c e (List.range 4) else ByteArray.empty).toList = h
  simp
theorem InstTells_true (op a b c e x : Int) (_ : -9223372036854775808 ≤ op ∧ op ≤ 9223372036854775807) (_ : -9223372036854775808 ≤ a ∧ a ≤ 9223372036854775807) (_ : -9223372036854775808 ≤ b ∧ b ≤ 9223372036854775807) (_ : -9223372036854775808 ≤ c ∧ c ≤ 9223372036854775807) (he : -2147483648 ≤ e ∧ e ≤ 2147483647) (hx : 0 ≤ x ∧ x ≤ 18446744073709551615) (W : World) (ht : Tab W) :
    Calls Tryd.prog 3 #[.agg #[.int .i64 op, .int .i64 a, .int .i64 b, .int .i64 c, .int .i32 e], .int .u64 x] W fun e w' => e = .returned (.bool true) ∧ Below W.heap.size W w' :=
  curtilagelaw08_InstTells.calls 60 op a b c e x W ht (InstTells_val op a b c e x he hx)
end Go.Proofs.YtnebgpegkihgdaaDoor.X
