import Derived.Test.YtcekghcejmhhaaaCharsI
import Derived.Test.YtcekghcejmhhaaaCharsD
set_option linter.unusedSimpArgs false
set_option linter.unusedVariables false
set_option linter.unnecessarySimpa false
namespace Go.Proofs.Ytcekghcejmhhaaa
open Go.RowKit Go.Proofs.YtcekghcejmhhaaaW.PrintWords Go.Proofs.YtcekghcejmhhaaaW.PrintLast Go.Proofs.YtcekghcejmhhaaaW.PrintMore
set_option maxRecDepth 100000

/-- An encoding, as a value. -/
def encV (enc : Int) : Value := if enc = 1 then .iface 100 (.agg #[]) else if enc = 2 then .iface 101 (.agg #[]) else .iface 102 (.agg #[])
theorem encV_1 : encV 1 = .iface 100 (.agg #[]) := rfl
theorem encV_2 : encV 2 = .iface 101 (.agg #[]) := rfl
theorem encV_3 : encV 3 = .iface 102 (.agg #[]) := rfl
/-- The panic of 'need'. -/
abbrev failed (e a : Int) : List PanicEntry := [{ v := .iface 97 (.agg #[.int .i64 e, .int .i64 a]), recovered := false }]

theorem meth_states_1 (w : World) : (method 231 100 (.agg #[]) "soroban/chars.states").run Try.prog w = .ok (71, .agg #[]) w := by kernel_rfl
theorem meth_states_2 (w : World) : (method 231 101 (.agg #[]) "soroban/chars.states").run Try.prog w = .ok (77, .agg #[]) w := by kernel_rfl
theorem meth_states_3 (w : World) : (method 231 102 (.agg #[]) "soroban/chars.states").run Try.prog w = .ok (84, .agg #[]) w := by kernel_rfl
theorem meth_has_1 (w : World) : (method 231 100 (.agg #[]) "soroban/chars.has").run Try.prog w = .ok (68, .agg #[]) w := by kernel_rfl
theorem meth_has_2 (w : World) : (method 231 101 (.agg #[]) "soroban/chars.has").run Try.prog w = .ok (74, .agg #[]) w := by kernel_rfl
theorem meth_has_3 (w : World) : (method 231 102 (.agg #[]) "soroban/chars.has").run Try.prog w = .ok (81, .agg #[]) w := by kernel_rfl
theorem meth_next_1 (w : World) : (method 231 100 (.agg #[]) "soroban/chars.next").run Try.prog w = .ok (69, .agg #[]) w := by kernel_rfl
theorem meth_next_2 (w : World) : (method 231 101 (.agg #[]) "soroban/chars.next").run Try.prog w = .ok (75, .agg #[]) w := by kernel_rfl
theorem meth_next_3 (w : World) : (method 231 102 (.agg #[]) "soroban/chars.next").run Try.prog w = .ok (82, .agg #[]) w := by kernel_rfl
theorem meth_put_1 (w : World) : (method 231 100 (.agg #[]) "soroban/chars.put").run Try.prog w = .ok (70, .agg #[]) w := by kernel_rfl
theorem meth_put_2 (w : World) : (method 231 101 (.agg #[]) "soroban/chars.put").run Try.prog w = .ok (76, .agg #[]) w := by kernel_rfl
theorem meth_put_3 (w : World) : (method 231 102 (.agg #[]) "soroban/chars.put").run Try.prog w = .ok (83, .agg #[]) w := by kernel_rfl
theorem of_at_1 (w : World) : (Instr.index 103 (.agg #[.iface 100 (.agg #[]), .iface 101 (.agg #[]), .iface 102 (.agg #[])]) (.int .i64 0)).run Try.prog w = .ok (encV 1) w := by kernel_rfl
theorem of_at_2 (w : World) : (Instr.index 103 (.agg #[.iface 100 (.agg #[]), .iface 101 (.agg #[]), .iface 102 (.agg #[])]) (.int .i64 1)).run Try.prog w = .ok (encV 2) w := by kernel_rfl
theorem of_at_3 (w : World) : (Instr.index 103 (.agg #[.iface 100 (.agg #[]), .iface 101 (.agg #[]), .iface 102 (.agg #[])]) (.int .i64 2)).run Try.prog w = .ok (encV 3) w := by kernel_rfl
theorem enc_cases {enc : Int} (h : encOk enc) : enc = 1 ∨ enc = 2 ∨ enc = 3 := by unfold encOk at h; omega

set_option maxHeartbeats 1000000 in
theorem of_ok (enc : Int) (h : encOk enc) (w : World) : Calls Try.prog 37 #[.int .i64 enc] w fun r w' => r = .returned (encV enc) ∧ w = w' := by
  have q1 := of_at_1
  have q2 := of_at_2
  have q3 := of_at_3
  rcases enc_cases h with rfl | rfl | rfl
  all_goals
    clear h
    go_enter Try.func37, Try.ntmps37
    go_wp2_with (go_at_call 41; (with_reducible refine (need_true _ _ _).mono ?_); rintro e w1 ⟨rfl, rfl⟩)
    go_ret
    exact ⟨rfl, rfl⟩

set_option maxHeartbeats 1000000 in
theorem of_no (enc : Int) (h : ¬ encOk enc) (w : World) : Calls Try.prog 37 #[.int .i64 enc] w fun r w' => r = .panicked (failed 1 0) ∧ w = w' := by
  by_cases h1 : 1 ≤ enc
  · have h2 : ¬ enc ≤ 3 := fun h2 => h ⟨h1, h2⟩
    clear h
    go_enter Try.func37, Try.ntmps37
    go_wp2_with (go_at_call 41; (with_reducible refine (need_false _ _ _).mono ?_); rintro e w1 ⟨rfl, rfl⟩)
    exact ⟨rfl, rfl, rfl⟩
  · clear h
    go_enter Try.func37, Try.ntmps37
    go_wp2_with (go_at_call 41; (with_reducible refine (need_false _ _ _).mono ?_); rintro e w1 ⟨rfl, rfl⟩)
    exact ⟨rfl, rfl, rfl⟩

set_option maxHeartbeats 400000 in
theorem few_ok (n : Int) (h : n ≤ 20000) (w : World) : Calls Try.prog 38 #[.int .i64 n] w fun r w' => r = .returned (.tuple #[]) ∧ w = w' := by
  go_enter Try.func38, Try.ntmps38
  go_wp2_with (go_at_call 41; (with_reducible refine (need_true _ _ _).mono ?_); rintro e w1 ⟨rfl, rfl⟩)
  go_end0
  exact ⟨rfl, rfl⟩
set_option maxHeartbeats 400000 in
theorem few_no (n : Int) (h : 20000 < n) (w : World) : Calls Try.prog 38 #[.int .i64 n] w fun r w' => r = .panicked (failed 2 0) ∧ w = w' := by
  have hd : decide (n ≤ 20000) = false := by simp; omega
  go_enter Try.func38, Try.ntmps38
  go_wp2_with (go_at_call 41; (with_reducible refine (need_false _ _ _).mono ?_); rintro e w1 ⟨rfl, rfl⟩)
  exact ⟨rfl, rfl, rfl⟩

/-- A state of an encoding. -/
def stOk (enc s : Int) : Prop := 0 ≤ s ∧ s < statesC enc
instance (enc s : Int) : Decidable (stOk enc s) := inferInstanceAs (Decidable (_ ∧ _))

set_option maxHeartbeats 1000000 in
theorem in_no1 (enc s : Int) (h : ¬ encOk enc) (w : World) : Calls Try.prog 46 #[.int .i64 enc, .int .i64 s] w fun r w' => r = .panicked (failed 1 0) ∧ Below w.heap.size w w' := by
  go_enter Try.func46, Try.ntmps46
  go_wp2_with (go_at_call 37; (with_reducible refine (of_no _ h _).mono ?_); rintro e w1 ⟨rfl, rfl⟩)
  exact ⟨rfl, rfl, Below.refl _ _⟩

set_option maxHeartbeats 2000000 in
theorem in_ok (enc s : Int) (h : encOk enc) (hs : stOk enc s) (w : World) : Calls Try.prog 46 #[.int .i64 enc, .int .i64 s] w fun r w' => r = .returned (encV enc) ∧ Below w.heap.size w w' := by
  obtain ⟨h1, h2⟩ := hs
  have h3 := h
  rcases enc_cases h with rfl | rfl | rfl
  all_goals
    have H := Lib.hid h3
    have H2 : s < 2 := by simp [statesC] at h2; omega
    simp [statesC] at h2
    clear h h3
    go_enter Try.func46, Try.ntmps46
    have m1 := meth_states_1
    have m2 := meth_states_2
    have m3 := meth_states_3
    go_wp2_with (first | (go_at_call 37; (with_reducible refine (of_ok _ H.out _).mono ?_); rintro e w1 ⟨rfl, rfl⟩; simp only [encV_1, encV_2, encV_3]) | (with_reducible show Calls Try.prog 71 #[_] _ _; (with_reducible refine (octets_states _).mono ?_); rintro e w1 ⟨rfl, hb⟩; obtain ⟨hc, hf⟩ := bcell hb) | (with_reducible show Calls Try.prog 77 #[_] _ _; (with_reducible refine (utf8_states _).mono ?_); rintro e w1 ⟨rfl, hb⟩; obtain ⟨hc, hf⟩ := bcell hb) | (with_reducible show Calls Try.prog 84 #[_] _ _; (with_reducible refine (shift_states _).mono ?_); rintro e w1 ⟨rfl, hb⟩; obtain ⟨hc, hf⟩ := bcell hb) | (go_at_call 41; (with_reducible refine (need_true _ _ _).mono ?_); rintro e w1 ⟨rfl, rfl⟩))
    go_ret
    exact ⟨by first | rfl | (simp [encV]), (by repeat (first | with_reducible assumption | with_reducible exact Below.refl _ _ | with_reducible refine below_alloc ?_ _ | with_reducible refine pw_below_drewN ?_ _ | with_reducible refine below_drew1 ?_ | ((with_reducible refine below_set ?_ ?hle); (case hle => first | (simp; done) | omega | (simp; omega))) | with_reducible refine below_step ?_ (by assumption)))⟩

set_option maxHeartbeats 2000000 in
theorem in_no2 (enc s : Int) (h : encOk enc) (hs : ¬ stOk enc s) (w : World) : Calls Try.prog 46 #[.int .i64 enc, .int .i64 s] w fun r w' => r = .panicked (failed 1 0) ∧ Below w.heap.size w w' := by
  have h3 := h
  by_cases h1 : 0 ≤ s
  · have hs2 : ¬ s < statesC enc := fun h => hs ⟨h1, h⟩
    clear hs
    rcases enc_cases h with rfl | rfl | rfl
    all_goals
      have H := Lib.hid h3
      simp [statesC] at hs2
      clear h h3
      have hd1 : decide (s < 1) = false := by simp; omega
      try have hd2 : decide (s < 2) = false := by simp; omega
      go_enter Try.func46, Try.ntmps46
      have m1 := meth_states_1
      have m2 := meth_states_2
      have m3 := meth_states_3
      go_wp2_with (first | (go_at_call 37; (with_reducible refine (of_ok _ H.out _).mono ?_); rintro e w1 ⟨rfl, rfl⟩; simp only [encV_1, encV_2, encV_3]) | (with_reducible show Calls Try.prog 71 #[_] _ _; (with_reducible refine (octets_states _).mono ?_); rintro e w1 ⟨rfl, hb⟩; obtain ⟨hc, hf⟩ := bcell hb) | (with_reducible show Calls Try.prog 77 #[_] _ _; (with_reducible refine (utf8_states _).mono ?_); rintro e w1 ⟨rfl, hb⟩; obtain ⟨hc, hf⟩ := bcell hb) | (with_reducible show Calls Try.prog 84 #[_] _ _; (with_reducible refine (shift_states _).mono ?_); rintro e w1 ⟨rfl, hb⟩; obtain ⟨hc, hf⟩ := bcell hb) | (go_at_call 41; (with_reducible refine (need_false _ _ _).mono ?_); rintro e w1 ⟨rfl, rfl⟩))
      exact ⟨rfl, rfl, (by repeat (first | with_reducible assumption | with_reducible exact Below.refl _ _ | with_reducible refine below_alloc ?_ _ | with_reducible refine pw_below_drewN ?_ _ | with_reducible refine below_drew1 ?_ | ((with_reducible refine below_set ?_ ?hle); (case hle => first | (simp; done) | omega | (simp; omega))) | with_reducible refine below_step ?_ (by assumption)))⟩
  · clear hs
    rcases enc_cases h with rfl | rfl | rfl
    all_goals
      have H := Lib.hid h3
      clear h h3
      go_enter Try.func46, Try.ntmps46
      go_wp2_with (first | (go_at_call 37; (with_reducible refine (of_ok _ H.out _).mono ?_); rintro e w1 ⟨rfl, rfl⟩; simp only [encV_1, encV_2, encV_3]) | (go_at_call 41; (with_reducible refine (need_false _ _ _).mono ?_); rintro e w1 ⟨rfl, rfl⟩))
      exact ⟨rfl, rfl, (by repeat (first | with_reducible assumption | with_reducible exact Below.refl _ _ | with_reducible refine below_alloc ?_ _ | with_reducible refine pw_below_drewN ?_ _ | with_reducible refine below_drew1 ?_ | ((with_reducible refine below_set ?_ ?hle); (case hle => first | (simp; done) | omega | (simp; omega))) | with_reducible refine below_step ?_ (by assumption)))⟩
end Go.Proofs.Ytcekghcejmhhaaa
