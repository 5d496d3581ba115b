/- Contract of inst.Decode in the form of the printed contracts. -/
import Derived.Test.YtbelnkdbghggmaaDoorIg
namespace Go.Proofs.YtbelnkdbghggmaaDoor.X
open Go.RowKit Go.Proofs.YtbelnkdbghggmaaDoorW.PrintWords Go.Proofs.YtbelnkdbghggmaaDoorW.PrintLast
def decI (x : Int) : Int := IntKind.i32.wrap (x / 4294967296)
def inst_Decode.f (a0 : Int) : Option (Int × Int × Int × Int × Int × Bool) := (inst_Fit.f (decOp a0) (decA a0) (decB a0) (decC a0) (decI a0)).bind fun t => if t = true then (inst_Encode.f (decOp a0) (decA a0) (decB a0) (decC a0) (decI a0)).bind fun e => if e = a0 then some (decOp a0, decA a0, decB a0, decC a0, decI a0, true) else some (0, 0, 0, 0, 0, false) else some (0, 0, 0, 0, 0, false)
theorem inst_Decode.calls (a0 : Int) (r1 : Int) (r2 : Int) (r3 : Int) (r4 : Int) (r5 : Int) (r6 : Bool) (w : World) (h : inst_Decode.f a0 = some (r1, r2, r3, r4, r5, r6)) :
    Calls Tryd.prog 15 #[.int .u64 a0] w fun e w' => e = .returned (.tuple #[.agg #[.int .i64 r1, .int .i64 r2, .int .i64 r3, .int .i64 r4, .int .i32 r5], .bool r6]) ∧ Below w.heap.size w w' := by
  unfold inst_Decode.f at h
  obtain ⟨t, ht, h⟩ := Option.bind_eq_some_iff.1 h
  cases t
  · rw [if_neg (by decide)] at h
    cases h
    exact Decode_walk a0 (decI a0) false 0 w rfl ht (fun k => by cases k)
  · rw [if_pos rfl] at h
    obtain ⟨e, he, h⟩ := Option.bind_eq_some_iff.1 h
    have hw := Decode_walk a0 (decI a0) true e w rfl ht (fun _ => he)
    by_cases hc : e = a0
    · rw [if_pos hc] at h
      cases h
      rw [if_pos ⟨rfl, hc⟩, decide_eq_true (And.intro rfl hc)] at hw
      exact hw
    · rw [if_neg hc] at h
      cases h
      rw [if_neg (fun k => hc k.2), decide_eq_false (fun k => hc k.2)] at hw
      exact hw
end Go.Proofs.YtbelnkdbghggmaaDoor.X
