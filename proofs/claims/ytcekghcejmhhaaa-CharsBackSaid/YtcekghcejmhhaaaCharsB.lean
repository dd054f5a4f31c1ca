import Derived.Test.YtcekghcejmhhaaaCharsA
import Derived.Test.YtcekghcejmhhaaaGen
import Derived.BigQuiet
import Derived.Deep.QuietTactic
import Derived.Lib.Hide
set_option linter.unusedSimpArgs false
set_option linter.unusedVariables false
set_option linter.unnecessarySimpa false
namespace Go.Proofs.Ytcekghcejmhhaaa
open Go.RowKit Go.Proofs.YtcekghcejmhhaaaW.PrintWords Go.Proofs.YtcekghcejmhhaaaW.PrintLast Go.Proofs.YtcekghcejmhhaaaW.PrintMore

@[go_sem] abbrev stepV (k c b s : Int) : Value := .agg #[.int .i64 k, .int .u32 c, .int .i64 b, .int .i64 s]

set_option maxHeartbeats 400000 in
theorem not_any (k : Int) (w : World) :
    Calls Try.prog 72 #[.int .i64 k] w fun r w' => r = .returned (stepV k 0 0 0) ∧ Below w.heap.size w w' := by
  go_enter Try.func72, Try.ntmps72
  go_wp2
  exact bodyPost_ret (v := stepV k 0 0 0) (by simp [results, Try.results72, go_sem]) rfl ⟨rfl, (by repeat (first | with_reducible assumption | with_reducible exact Below.refl _ _ | with_reducible refine below_alloc ?_ _ | with_reducible refine pw_below_drewN ?_ _ | with_reducible refine below_drew1 ?_ | ((with_reducible refine below_set ?_ ?hle); (case hle => first | (simp; done) | omega | (simp; omega))) | with_reducible refine below_step ?_ (by assumption)))⟩

set_option maxHeartbeats 400000 in
theorem whole_any (c b s : Int) (w : World) :
    Calls Try.prog 73 #[.int .u32 c, .int .i64 b, .int .i64 s] w fun r w' => r = .returned (stepV 1 c b s) ∧ Below w.heap.size w w' := by
  go_enter Try.func73, Try.ntmps73
  go_wp2
  exact bodyPost_ret (v := stepV 1 c b s) (by simp [results, Try.results73, go_sem]) rfl ⟨rfl, (by repeat (first | with_reducible assumption | with_reducible exact Below.refl _ _ | with_reducible refine below_alloc ?_ _ | with_reducible refine pw_below_drewN ?_ _ | with_reducible refine below_drew1 ?_ | ((with_reducible refine below_set ?_ ?hle); (case hle => first | (simp; done) | omega | (simp; omega))) | with_reducible refine below_step ?_ (by assumption)))⟩

set_option maxHeartbeats 400000 in
theorem octets_next_nil (s : Int) (A : Option Addr) (c : Nat) (w : World) :
    Calls Try.prog 69 #[.agg #[], .int .i64 s, .slice A 0 c] w fun r w' => r = .returned (stepV 3 0 0 0) ∧ Below w.heap.size w w' := by
  go_enter Try.func69, Try.ntmps69
  go_wp2_with (go_at_call 72; refine (not_any _ _).mono ?_; rintro e w1 ⟨rfl, hb⟩; obtain ⟨hc, hf⟩ := bcell hb)
  have hz := below_size hb
  simp at hz
  exact bodyPost_ret (v := stepV 3 0 0 0) (by simp [results, Try.results69, go_sem, hc, hz]) rfl ⟨rfl, (by repeat (first | with_reducible assumption | with_reducible exact Below.refl _ _ | with_reducible refine below_alloc ?_ _ | with_reducible refine pw_below_drewN ?_ _ | with_reducible refine below_drew1 ?_ | ((with_reducible refine below_set ?_ ?hle); (case hle => first | (simp; done) | omega | (simp; omega))) | with_reducible refine below_step ?_ (by assumption)))⟩

set_option maxHeartbeats 400000 in
theorem octets_next_cons (s : Int) (b off : Nat) (n : Nat) (c : Nat) (x : Int) (w : World) (hx : w.cell? ⟨b, off, none⟩ = some (.int .u8 x)) (hlt : b < w.heap.size) (h0 : 0 ≤ x) (h1 : x ≤ 255):
    Calls Try.prog 69 #[.agg #[], .int .i64 s, .slice (some ⟨b, off, none⟩) (n + 1) c] w fun r w' => r = .returned (stepV 1 x 1 0) ∧ Below w.heap.size w w' := by
  have t0 : ((n : Int) + 1 == 0) = false := by simp; omega
  go_enter Try.func69, Try.ntmps69
  go_wp2_with (go_at_call 73; refine (whole_any _ _ _ _).mono ?_; rintro e w1 ⟨rfl, hb⟩; obtain ⟨hc, hf⟩ := bcell hb)
  have hz := below_size hb
  simp at hz
  exact bodyPost_ret (v := stepV 1 x 1 0) (by simp [results, Try.results69, go_sem, hc, hz]) rfl ⟨rfl, (by repeat (first | with_reducible assumption | with_reducible exact Below.refl _ _ | with_reducible refine below_alloc ?_ _ | with_reducible refine pw_below_drewN ?_ _ | with_reducible refine below_drew1 ?_ | ((with_reducible refine below_set ?_ ?hle); (case hle => first | (simp; done) | omega | (simp; omega))) | with_reducible refine below_step ?_ (by assumption)))⟩
end Go.Proofs.Ytcekghcejmhhaaa
