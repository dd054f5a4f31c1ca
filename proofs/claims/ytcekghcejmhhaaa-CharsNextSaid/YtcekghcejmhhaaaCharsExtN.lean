/- The contracts of Valid, Put and Reset of 'chars', in the form that the printed walks ask for. -/
import Derived.Test.YtcekghcejmhhaaaCharsPut
import Derived.Test.YtcekghcejmhhaaaCharsExtR
set_option linter.unusedSimpArgs false
set_option linter.unusedVariables false
set_option linter.unnecessarySimpa false
namespace Go.Proofs.Ytcekghcejmhhaaa
open Go.RowKit Go.Proofs.YtcekghcejmhhaaaW.PrintWords Go.Proofs.YtcekghcejmhhaaaW.PrintLast Go.Proofs.YtcekghcejmhhaaaW.PrintMore

def chars_Valid.f (a0 a1 : Int) : Option (Bool × Int) := some (validE a0 a1)
theorem chars_Valid.calls (a0 a1 : Int) (r1 : Bool) (r2 : Int) (w : World) (h : chars_Valid.f a0 a1 = some (r1, r2)) :
    Calls Try.prog 28 #[.int .i64 a0, .int .u32 a1] w fun e w' => e = .returned (.tuple #[.bool r1, .int .i64 r2]) ∧ Below w.heap.size w w' := by
  have h' : validE a0 a1 = (r1, r2) := Option.some.inj h
  have := Valid_any a0 a1 w
  rw [h'] at this
  exact this
def chars_Put.f (a0 a1 a2 : Int) : Option (List Int × Int × Int) := if 0 ≤ a2 then some (putE a0 a1 a2) else none
theorem chars_Put.calls (a0 a1 a2 : Int) (r1 : List Int) (r2 r3 : Int) (w : World) (h : chars_Put.f a0 a1 a2 = some (r1, r2, r3)) :
    Calls Try.prog 29 #[.int .i64 a0, .int .i64 a1, .int .u32 a2] w fun e w' => ∃ v0_ : Value, e = .returned (.tuple #[v0_, .int .i64 r2, .int .i64 r3]) ∧ Kd.R (Kd.int .u8) 5 w' w.heap.size (fun _ => True) v0_ r1 ∧ Below w.heap.size w w' := by
  unfold chars_Put.f at h
  split at h
  · rename_i h0
    have h' : putE a0 a1 a2 = (r1, r2, r3) := Option.some.inj h
    have := Put_any a0 a1 a2 h0 w
    rw [h'] at this
    exact this
  · cases h
def chars_Reset.f (a0 a1 : Int) : Option (List Int × Int) := some (resetE a0 a1)
theorem chars_Reset.calls (a0 a1 : Int) (r1 : List Int) (r2 : Int) (w : World) (h : chars_Reset.f a0 a1 = some (r1, r2)) :
    Calls Try.prog 30 #[.int .i64 a0, .int .i64 a1] w fun e w' => ∃ v0_ : Value, e = .returned (.tuple #[v0_, .int .i64 r2]) ∧ Kd.R (Kd.int .u8) 5 w' w.heap.size (fun _ => True) v0_ r1 ∧ Below w.heap.size w w' := by
  have h' : resetE a0 a1 = (r1, r2) := Option.some.inj h
  have := Reset_any a0 a1 w
  rw [h'] at this
  exact this

theorem valid_x {enc c : Int} : chars_Valid.f enc c = some (validE enc c) := rfl
theorem put_c {enc st c : Int} (h : 0 ≤ c) : chars_Put.f enc st c = some (putE enc st c) := by unfold chars_Put.f; rw [if_pos h]
theorem reset_c {enc st : Int} : chars_Reset.f enc st = some (resetE enc st) := rfl
end Go.Proofs.Ytcekghcejmhhaaa
