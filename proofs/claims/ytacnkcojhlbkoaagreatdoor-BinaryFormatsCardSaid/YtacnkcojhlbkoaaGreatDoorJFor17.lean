/- binary: Value. -/
import Derived.Test.YtacnkcojhlbkoaaGreatDoorJFor16
import Derived.Test.YtacnkcojhlbkoaaGreatDoorJFor10
set_option linter.unusedSimpArgs false
set_option linter.unusedVariables false
set_option linter.unnecessarySimpa false
namespace Go.Proofs.YtacnkcojhlbkoaaGreatDoor
open Go.RowKit Go.Proofs.YtacnkcojhlbkoaaGreatDoorW.PrintWords Go.Proofs.YtacnkcojhlbkoaaGreatDoorW.PrintLast Go.Proofs.YtacnkcojhlbkoaaGreatDoorW.PrintMore Go.Proofs.YtacnkcojhlbkoaaGreatDoor.NL
set_option maxRecDepth 100000
set_option exponentiation.threshold 33000

/-- A number and an error. -/
def DyadE (ng : Bool) (a : List Int) (ex er : Int) (w : World) (e : Ending) (w' : World) : Prop := ∃ v, e = .returned (.tuple #[.agg #[.bool ng, v, .int .i64 ex], .int .i64 er]) ∧ Kd.R (Kd.int .u32) 40 w' w.heap.size (fun _ => True) v a ∧ Below w.heap.size w w'
abbrev Y0P (er : Int) := DyadE false [] 0 er
end Go.Proofs.YtacnkcojhlbkoaaGreatDoor
