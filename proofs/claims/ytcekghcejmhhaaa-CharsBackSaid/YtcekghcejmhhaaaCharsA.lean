import Derived.Test.YtcekghcejmhhaaaProg
import Derived.WalkKit
import Derived.WalkSpells
import Derived.WalkLawsBesides
set_option linter.unusedSimpArgs false
set_option linter.unusedVariables false
set_option linter.unnecessarySimpa false
namespace Go.Proofs.Ytcekghcejmhhaaa
open Go.RowKit

set_option maxHeartbeats 400000 in
theorem need_true (e a : Int) (w : World) :
    Calls Try.prog 41 #[.bool true, .int .i64 e, .int .i64 a] w fun r w' => r = .returned (.tuple #[]) ∧ w = w' := by
  go_enter Try.func41, Try.ntmps41
  go_wp2
  go_end0
  exact ⟨rfl, rfl⟩

set_option maxHeartbeats 400000 in
theorem need_false (e a : Int) (w : World) :
    Calls Try.prog 41 #[.bool false, .int .i64 e, .int .i64 a] w fun r w' => r = .panicked [{ v := .iface 97 (.agg #[.int .i64 e, .int .i64 a]), recovered := false }] ∧ w = w' := by
  go_enter Try.func41, Try.ntmps41
  go_wp2
  exact ⟨rfl, rfl, rfl⟩

end Go.Proofs.Ytcekghcejmhhaaa
