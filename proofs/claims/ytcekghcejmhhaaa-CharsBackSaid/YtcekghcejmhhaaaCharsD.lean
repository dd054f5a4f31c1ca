import Derived.Test.YtcekghcejmhhaaaCharsB
import Derived.Test.YtcekghcejmhhaaaCharsSpec
import Derived.Test.YtcekghcejmhhaaaPCharsEncodex1
import Derived.Deep.RegionHeld3
import Derived.StillTailTactics
set_option linter.unusedSimpArgs false
set_option linter.unusedVariables false
set_option linter.unnecessarySimpa false
namespace Go.Proofs.Ytcekghcejmhhaaa
open Go.RowKit Go.Proofs.YtcekghcejmhhaaaW.PrintWords Go.Proofs.YtcekghcejmhhaaaW.PrintLast Go.Proofs.YtcekghcejmhhaaaW.PrintMore

set_option maxHeartbeats 400000 in
theorem octets_states (w : World) : Calls Try.prog 71 #[.agg #[]] w fun r w' => r = .returned (.int .i64 1) ∧ Below w.heap.size w w' := by
  go_enter Try.func71, Try.ntmps71
  go_wp2
  go_ret
  exact ⟨rfl, (by repeat (first | with_reducible assumption | with_reducible exact Below.refl _ _ | with_reducible refine below_alloc ?_ _ | with_reducible refine pw_below_drewN ?_ _ | with_reducible refine below_drew1 ?_ | ((with_reducible refine below_set ?_ ?hle); (case hle => first | (simp; done) | omega | (simp; omega))) | with_reducible refine below_step ?_ (by assumption)))⟩
set_option maxHeartbeats 400000 in
theorem utf8_states (w : World) : Calls Try.prog 77 #[.agg #[]] w fun r w' => r = .returned (.int .i64 1) ∧ Below w.heap.size w w' := by
  go_enter Try.func77, Try.ntmps77
  go_wp2
  go_ret
  exact ⟨rfl, (by repeat (first | with_reducible assumption | with_reducible exact Below.refl _ _ | with_reducible refine below_alloc ?_ _ | with_reducible refine pw_below_drewN ?_ _ | with_reducible refine below_drew1 ?_ | ((with_reducible refine below_set ?_ ?hle); (case hle => first | (simp; done) | omega | (simp; omega))) | with_reducible refine below_step ?_ (by assumption)))⟩
set_option maxHeartbeats 400000 in
theorem shift_states (w : World) : Calls Try.prog 84 #[.agg #[]] w fun r w' => r = .returned (.int .i64 2) ∧ Below w.heap.size w w' := by
  go_enter Try.func84, Try.ntmps84
  go_wp2
  go_ret
  exact ⟨rfl, (by repeat (first | with_reducible assumption | with_reducible exact Below.refl _ _ | with_reducible refine below_alloc ?_ _ | with_reducible refine pw_below_drewN ?_ _ | with_reducible refine below_drew1 ?_ | ((with_reducible refine below_set ?_ ?hle); (case hle => first | (simp; done) | omega | (simp; omega))) | with_reducible refine below_step ?_ (by assumption)))⟩
set_option maxHeartbeats 400000 in
theorem octets_has (c : Int) (w : World) : Calls Try.prog 68 #[.agg #[], .int .u32 c] w fun r w' => r = .returned (.bool (hasC 1 c)) ∧ Below w.heap.size w w' := by
  go_enter Try.func68, Try.ntmps68
  go_wp2
  go_ret
  exact ⟨by simp [hasC], (by repeat (first | with_reducible assumption | with_reducible exact Below.refl _ _ | with_reducible refine below_alloc ?_ _ | with_reducible refine pw_below_drewN ?_ _ | with_reducible refine below_drew1 ?_ | ((with_reducible refine below_set ?_ ?hle); (case hle => first | (simp; done) | omega | (simp; omega))) | with_reducible refine below_step ?_ (by assumption)))⟩
set_option maxHeartbeats 400000 in
theorem utf8_has (c : Int) (w : World) : Calls Try.prog 74 #[.agg #[], .int .u32 c] w fun r w' => r = .returned (.bool (hasC 2 c)) ∧ Below w.heap.size w w' := by
  by_cases h1 : c < 55296
  all_goals by_cases h2 : 57343 < c
  all_goals by_cases h3 : c ≤ 1114111
  all_goals try omega
  all_goals
    have H : Hid (hasC 2 c = decide (c < 55296 ∨ 57343 < c ∧ c ≤ 1114111)) := by simp [hasC, Hid]
    go_enter Try.func74, Try.ntmps74
    go_wp2
    go_ret
    exact ⟨by rw [H.out]; simp [h1, h2, h3] <;> omega, (by repeat (first | with_reducible assumption | with_reducible exact Below.refl _ _ | with_reducible refine below_alloc ?_ _ | with_reducible refine pw_below_drewN ?_ _ | with_reducible refine below_drew1 ?_ | ((with_reducible refine below_set ?_ ?hle); (case hle => first | (simp; done) | omega | (simp; omega))) | with_reducible refine below_step ?_ (by assumption)))⟩
set_option maxHeartbeats 1000000 in
theorem shift_has (c : Int) (w : World) : Calls Try.prog 81 #[.agg #[], .int .u32 c] w fun r w' => r = .returned (.bool (hasC 3 c)) ∧ Below w.heap.size w w' := by
  have H : Hid (hasC 3 c = decide (c ≤ 127 ∧ c ≠ 14 ∧ c ≠ 15 ∨ 19968 ≤ c ∧ c ≤ 28803)) := by simp [hasC, Hid]
  by_cases h1 : c ≤ 127
  · by_cases h2 : c = 14
    · subst h2
      go_enter Try.func81, Try.ntmps81
      go_wp2
      go_ret
      exact ⟨by rw [H.out]; simp, (by repeat (first | with_reducible assumption | with_reducible exact Below.refl _ _ | with_reducible refine below_alloc ?_ _ | with_reducible refine pw_below_drewN ?_ _ | with_reducible refine below_drew1 ?_ | ((with_reducible refine below_set ?_ ?hle); (case hle => first | (simp; done) | omega | (simp; omega))) | with_reducible refine below_step ?_ (by assumption)))⟩
    · by_cases h3 : c = 15
      · subst h3
        go_enter Try.func81, Try.ntmps81
        go_wp2
        go_ret
        exact ⟨by rw [H.out]; simp, (by repeat (first | with_reducible assumption | with_reducible exact Below.refl _ _ | with_reducible refine below_alloc ?_ _ | with_reducible refine pw_below_drewN ?_ _ | with_reducible refine below_drew1 ?_ | ((with_reducible refine below_set ?_ ?hle); (case hle => first | (simp; done) | omega | (simp; omega))) | with_reducible refine below_step ?_ (by assumption)))⟩
      · have t1 : (c != 14) = true := by simp [h2]
        have t2 : (c != 15) = true := by simp [h3]
        go_enter Try.func81, Try.ntmps81
        go_wp2
        go_ret
        exact ⟨by rw [H.out]; simp [h1, h2, h3], (by repeat (first | with_reducible assumption | with_reducible exact Below.refl _ _ | with_reducible refine below_alloc ?_ _ | with_reducible refine pw_below_drewN ?_ _ | with_reducible refine below_drew1 ?_ | ((with_reducible refine below_set ?_ ?hle); (case hle => first | (simp; done) | omega | (simp; omega))) | with_reducible refine below_step ?_ (by assumption)))⟩
  · by_cases h4 : 19968 ≤ c
    · go_enter Try.func81, Try.ntmps81
      go_wp2
      go_ret
      exact ⟨by rw [H.out]; exact congrArg (fun b => Ending.returned (.bool b)) (decide_eq_decide.2 (by omega)), (by repeat (first | with_reducible assumption | with_reducible exact Below.refl _ _ | with_reducible refine below_alloc ?_ _ | with_reducible refine pw_below_drewN ?_ _ | with_reducible refine below_drew1 ?_ | ((with_reducible refine below_set ?_ ?hle); (case hle => first | (simp; done) | omega | (simp; omega))) | with_reducible refine below_step ?_ (by assumption)))⟩
    · go_enter Try.func81, Try.ntmps81
      go_wp2
      go_ret
      exact ⟨by rw [H.out]; simp; omega, (by repeat (first | with_reducible assumption | with_reducible exact Below.refl _ _ | with_reducible refine below_alloc ?_ _ | with_reducible refine pw_below_drewN ?_ _ | with_reducible refine below_drew1 ?_ | ((with_reducible refine below_set ?_ ?hle); (case hle => first | (simp; done) | omega | (simp; omega))) | with_reducible refine below_step ?_ (by assumption)))⟩

theorem turn_f (a b : Int) : PCharsEncode.chars_turn.f a b = some (turnC a b) := by
  unfold PCharsEncode.chars_turn.f turnC
  by_cases h1 : a = b
  · simp [h1]
  · by_cases h2 : b = 1
    · subst h2; rw [if_neg h1, if_pos rfl, if_neg h1, if_pos rfl]
    · rw [if_neg h1, if_neg h2, if_neg h1, if_neg h2]

theorem turn_any (a b : Int) (w : World) : Calls Try.prog 43 #[.int .i64 a, .int .i64 b] w fun r w' => ∃ v, r = .returned v ∧ OwnI .u8 5 w.heap.size w' v (turnC a b) ∧ Below w.heap.size w w' :=
  PCharsEncode.chars_turn.calls a b _ w (turn_f a b)

set_option maxHeartbeats 400000 in
theorem octets_put (s c : Int) (w : World) : Calls Try.prog 70 #[.agg #[], .int .i64 s, .int .u32 c] w fun r w' => ∃ v, r = .returned (.tuple #[v, .int .i64 (putC 1 s c).2]) ∧ OwnI .u8 5 w.heap.size w' v (putC 1 s c).1 ∧ Below w.heap.size w w' := by
  go_enter Try.func70, Try.ntmps70
  go_wp2
  go_ret2
  refine ⟨_, rfl, ?_, (by repeat (first | with_reducible assumption | with_reducible exact Below.refl _ _ | with_reducible refine below_alloc ?_ _ | with_reducible refine pw_below_drewN ?_ _ | with_reducible refine below_drew1 ?_ | ((with_reducible refine below_set ?_ ?hle); (case hle => first | (simp; done) | omega | (simp; omega))) | with_reducible refine below_step ?_ (by assumption)))⟩
  exact R_fresh (k := .u8) _ (w.heap.size + 1) (by simp) [c % 256] _ (by simp [nums]) _ (by simp) (by simp) (by simp)
end Go.Proofs.Ytcekghcejmhhaaa
