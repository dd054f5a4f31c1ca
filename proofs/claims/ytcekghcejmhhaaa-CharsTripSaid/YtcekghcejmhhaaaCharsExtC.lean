/- The contract of chars.Convert, in the form that the printed walks ask for. -/
import Derived.Test.YtcekghcejmhhaaaConvB
import Derived.Test.YtcekghcejmhhaaaCharsExt
set_option linter.unusedSimpArgs false
set_option linter.unusedVariables false
set_option linter.unnecessarySimpa false
namespace Go.Proofs.Ytcekghcejmhhaaa
open Go.RowKit Go.Proofs.YtcekghcejmhhaaaW.PrintWords Go.Proofs.YtcekghcejmhhaaaW.PrintLast Go.Proofs.YtcekghcejmhhaaaW.PrintMore

def chars_Convert.f (a0 a1 : Int) (l2 : List Int) : Option (List Int × Int × Int) := if bytB l2 then some (convertC a0 a1 l2) else none
theorem chars_Convert.calls (a0 a1 : Int) (A2 : Option Addr) (c2 : Nat) (l2 : List Int) (r1 : List Int) (r2 r3 : Int) (w : World) (hr2 : Kd.C (Kd.int .u8) w A2 l2.length l2) (hc2 : l2.length ≤ c2) (h : chars_Convert.f a0 a1 l2 = some (r1, r2, r3)) :
    Calls Try.prog 27 #[.int .i64 a0, .int .i64 a1, .slice A2 l2.length c2] w fun e w' => ∃ v0_ : Value, e = .returned (.tuple #[v0_, .int .i64 r2, .int .i64 r3]) ∧ Kd.R (Kd.int .u8) 5 w' w.heap.size (fun _ => True) v0_ r1 ∧ Below w.heap.size w w' := by
  unfold chars_Convert.f at h
  split at h
  · rename_i hb
    simp only [Option.some.injEq] at h
    have := Convert_any a0 a1 A2 _ c2 l2 w hc2 hr2 (bytB_of hb)
    unfold ConvPost at this
    rw [h] at this
    exact this
  · cases h
end Go.Proofs.Ytcekghcejmhhaaa
