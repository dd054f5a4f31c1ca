import Derived.Test.YtcekghcejmhhaaaCharsH
set_option linter.unusedSimpArgs false
set_option linter.unusedVariables false
set_option linter.unnecessarySimpa false
namespace Go.Proofs.Ytcekghcejmhhaaa
open Go.RowKit Go.Proofs.YtcekghcejmhhaaaW.PrintWords Go.Proofs.YtcekghcejmhhaaaW.PrintLast Go.Proofs.YtcekghcejmhhaaaW.PrintMore
set_option maxRecDepth 100000

theorem turnC_len (a b : Int) : (turnC a b).length ≤ 1 := by
  unfold turnC
  split
  · simp
  · split <;> simp

set_option maxHeartbeats 1000000 in
theorem shift_put_a (s c : Int) (w : World) (h0 : 0 ≤ c) (h1 : c ≤ 127) : Calls Try.prog 83 #[.agg #[], .int .i64 s, .int .u32 c] w fun r w' => ∃ v, r = .returned (.tuple #[v, .int .i64 (putC 3 s c).2]) ∧ OwnI .u8 5 w.heap.size w' v (putC 3 s c).1 ∧ Below w.heap.size w w' := by
  have HE : Hid (putC 3 s c = (turnC s 0 ++ [c], 0)) := Lib.hid (by simp [putC, h1]; omega)
  have HL : Hid ((turnC s 0).length ≤ 1) := Lib.hid (turnC_len s 0)
  go_enter Try.func83, Try.ntmps83
  go_wp2_with (first | (go_at_call 43; (with_reducible refine (turn_any _ _ _).mono ?_); rintro e w1 ⟨v, rfl, hv, hb⟩) | (go_at_call 42; refine (joined_any (w0 := w) (xs := turnC s 0) (ys := [c]) (by repeat (first | with_reducible assumption | with_reducible exact Below.refl _ _ | with_reducible refine below_alloc ?_ _ | with_reducible refine pw_below_drewN ?_ _ | with_reducible refine below_drew1 ?_ | ((with_reducible refine below_set ?_ ?hle); (case hle => first | (simp; done) | omega | (simp; omega))) | with_reducible refine below_step ?_ (by assumption))) (Kd.R_alloc (Kd.R_lower hv (by simp)) _) (fresh_src w1 _ rfl [c] _ (by simp [nums]) (by simp) (fun h => by have := own_lt_size hv h; omega)) (by simp) (by have := HL.out; simp; omega)).mono ?_; rintro e w2 ⟨v2, rfl, hv2, hb2⟩))
  go_ret2
  rw [HE.out]
  exact ⟨v2, rfl, hv2, hb2⟩

set_option maxHeartbeats 1000000 in
theorem shift_put_b (s c : Int) (w : World) (h0 : 19968 ≤ c) (h1 : c ≤ 28803) : Calls Try.prog 83 #[.agg #[], .int .i64 s, .int .u32 c] w fun r w' => ∃ v, r = .returned (.tuple #[v, .int .i64 (putC 3 s c).2]) ∧ OwnI .u8 5 w.heap.size w' v (putC 3 s c).1 ∧ Below w.heap.size w w' := by
  have HE : Hid (putC 3 s c = (turnC s 1 ++ [33 + (c - 19968) / 94, 33 + (c - 19968) % 94], 1)) := Lib.hid (by rw [putC, if_neg (by omega), if_neg (by omega), if_neg (by omega)])
  have HL : Hid ((turnC s 1).length ≤ 1) := Lib.hid (turnC_len s 1)
  have hd : decide (c ≤ 127) = false := by simp; omega
  go_enter Try.func83, Try.ntmps83
  go_wp2_with (first | (go_at_call 43; (with_reducible refine (turn_any _ _ _).mono ?_); rintro e w1 ⟨v, rfl, hv, hb⟩) | (go_at_call 42; refine (joined_any (w0 := w) (xs := turnC s 1) (ys := [33 + (c - 19968) / 94, 33 + (c - 19968) % 94]) (by repeat (first | with_reducible assumption | with_reducible exact Below.refl _ _ | with_reducible refine below_alloc ?_ _ | with_reducible refine pw_below_drewN ?_ _ | with_reducible refine below_drew1 ?_ | ((with_reducible refine below_set ?_ ?hle); (case hle => first | (simp; done) | omega | (simp; omega))) | with_reducible refine below_step ?_ (by assumption))) (Kd.R_alloc (Kd.R_lower hv (by simp)) _) (fresh_src w1 _ rfl [33 + (c - 19968) / 94, 33 + (c - 19968) % 94] _ (by simp [nums]) (by simp) (fun h => by have := own_lt_size hv h; omega)) (by simp) (by have := HL.out; simp; omega)).mono ?_; rintro e w2 ⟨v2, rfl, hv2, hb2⟩))
  go_ret2
  rw [HE.out]
  exact ⟨v2, rfl, hv2, hb2⟩

theorem shift_put (s c : Int) (w : World) (h0 : 0 ≤ c) (hc : hasC 3 c = true) : Calls Try.prog 83 #[.agg #[], .int .i64 s, .int .u32 c] w fun r w' => ∃ v, r = .returned (.tuple #[v, .int .i64 (putC 3 s c).2]) ∧ OwnI .u8 5 w.heap.size w' v (putC 3 s c).1 ∧ Below w.heap.size w w' := by
  simp [hasC] at hc
  by_cases h : c ≤ 127
  · exact shift_put_a s c w h0 h
  · exact shift_put_b s c w (by omega) (by omega)

theorem utf8_has_le {c : Int} (hc : hasC 2 c = true) : c ≤ 1114111 := by simp [hasC] at hc; omega
theorem utf8_put' (s c : Int) (w : World) (h0 : 0 ≤ c) (hc : hasC 2 c = true) : Calls Try.prog 76 #[.agg #[], .int .i64 s, .int .u32 c] w fun r w' => ∃ v, r = .returned (.tuple #[v, .int .i64 (putC 2 s c).2]) ∧ OwnI .u8 5 w.heap.size w' v (putC 2 s c).1 ∧ Below w.heap.size w w' := utf8_put s c w h0 (utf8_has_le hc)
theorem octets_put' (s c : Int) (w : World) (_h0 : 0 ≤ c) (_hc : hasC 1 c = true) : Calls Try.prog 70 #[.agg #[], .int .i64 s, .int .u32 c] w fun r w' => ∃ v, r = .returned (.tuple #[v, .int .i64 (putC 1 s c).2]) ∧ OwnI .u8 5 w.heap.size w' v (putC 1 s c).1 ∧ Below w.heap.size w w' := octets_put s c w
theorem putC_len (enc s c : Int) : (putC enc s c).1.length ≤ 4 := by
  have h1 := turnC_len s 0
  have h2 := turnC_len s 1
  unfold putC
  split
  · simp
  · split
    · split
      · simp
      · split
        · simp
        · split <;> simp
    · split <;> simp <;> omega
end Go.Proofs.Ytcekghcejmhhaaa
