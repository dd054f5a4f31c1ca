/- Written by this session's own program (wip/tools/xprint.sh) for the law Base: what the law's functions compute, and that the machine does so, given the contracts of the program's functions. -/
import Derived.Test.YtcekghcejmhhaaaXBasex0
namespace Go.Proofs.Ytcekghcejmhhaaa.XBase
open Go.RowKit Go.Proofs.YtcekghcejmhhaaaW.PrintWords Go.Proofs.YtcekghcejmhhaaaW.PrintLast Go.Proofs.YtcekghcejmhhaaaW.PrintMore
attribute [local go_sem] max2_int min2_int max_two min_two max_three min_three max_four min_four   -- for this text's walks alone
set_option linter.unusedVariables false
set_option linter.unusedSimpArgs false

/-! ### sorobanref18_Has: function 32 -/
def sorobanref18_Has.f (a0 : Int) (a1 : Int) : Option (Bool) := if a0 = 1 then (some (decide (a1 ≤ 255))) else (if a0 = 2 then (if a1 ≤ 1114111 then (if a1 < 55296 then (some true) else (some (decide (a1 > 57343)))) else (some false)) else (if a1 ≤ 127 then (if a1 = 14 then (if a1 ≥ 19968 then (some (decide (a1 ≤ 28803))) else (some false)) else (if a1 = 15 then (if a1 ≥ 19968 then (some (decide (a1 ≤ 28803))) else (some false)) else (some true))) else (if a1 ≥ 19968 then (some (decide (a1 ≤ 28803))) else (some false))))
set_option maxHeartbeats 8000000 in
set_option maxRecDepth 100000 in
theorem sorobanref18_Has.calls (a0 : Int) (a1 : Int) (r : Bool) (w : World) (h : sorobanref18_Has.f a0 a1 = some r) :
    Calls Try.prog 32 #[.int .i64 a0, .int .u32 a1] w fun e w' => e = .returned (.bool r) ∧ Drawn0 w w' := by
  have H : (if a0 = 1 then (some (decide (a1 ≤ 255))) else (if a0 = 2 then (if a1 ≤ 1114111 then (if a1 < 55296 then (some true) else (some (decide (a1 > 57343)))) else (some false)) else (if a1 ≤ 127 then (if a1 = 14 then (if a1 ≥ 19968 then (some (decide (a1 ≤ 28803))) else (some false)) else (if a1 = 15 then (if a1 ≥ 19968 then (some (decide (a1 ≤ 28803))) else (some false)) else (some true))) else (if a1 ≥ 19968 then (some (decide (a1 ≤ 28803))) else (some false))))) = some r := h
  clear h
  by_cases c3 : a0 = 1
  · rw [if_pos c3] at H
    have c3b0 : (a0 == 1) = true := beq_iff_eq.mpr c3
    have c3b1 : (a0 != 1) = false := bne_eq_false_iff_eq.mpr c3
    clear c3
    obtain rfl := Option.some.inj H
    go_enter Try.func32, Try.ntmps32
    go_wp2
    go_ret
    exact ⟨by first | rfl | (simp; done) | (simp [*]; done), by repeat (first | exact Drawn0.refl _ | apply Drawn0.step)⟩
  · rw [if_neg c3] at H
    have c3b0 : (a0 == 1) = false := beq_eq_false_iff_ne.mpr c3
    have c3b1 : (a0 != 1) = true := bne_iff_ne.mpr c3
    by_cases c4 : a0 = 2
    · rw [if_pos c4] at H
      have c4b0 : (a0 == 2) = true := beq_iff_eq.mpr c4
      have c4b1 : (a0 != 2) = false := bne_eq_false_iff_eq.mpr c4
      clear c4
      by_cases c5 : a1 ≤ 1114111
      · rw [if_pos c5] at H
        have c5b0 : decide (a1 ≤ 1114111) = true := decide_eq_true c5
        clear c5
        by_cases c6 : a1 < 55296
        · rw [if_pos c6] at H
          have c6b0 : decide (a1 < 55296) = true := decide_eq_true c6
          clear c6
          obtain rfl := Option.some.inj H
          go_enter Try.func32, Try.ntmps32
          go_wp2
          go_ret
          exact ⟨by first | rfl | (simp; done) | (simp [*]; done), by repeat (first | exact Drawn0.refl _ | apply Drawn0.step)⟩
        · rw [if_neg c6] at H
          have c6b0 : decide (a1 < 55296) = false := decide_eq_false c6
          clear c6
          obtain rfl := Option.some.inj H
          go_enter Try.func32, Try.ntmps32
          go_wp2
          go_ret
          exact ⟨by first | rfl | (simp; done) | (simp [*]; done), by repeat (first | exact Drawn0.refl _ | apply Drawn0.step)⟩
      · rw [if_neg c5] at H
        have c5b0 : decide (a1 ≤ 1114111) = false := decide_eq_false c5
        clear c5
        obtain rfl := Option.some.inj H
        go_enter Try.func32, Try.ntmps32
        go_wp2
        go_ret
        exact ⟨by first | rfl | (simp; done) | (simp [*]; done), by repeat (first | exact Drawn0.refl _ | apply Drawn0.step)⟩
    · rw [if_neg c4] at H
      have c4b0 : (a0 == 2) = false := beq_eq_false_iff_ne.mpr c4
      have c4b1 : (a0 != 2) = true := bne_iff_ne.mpr c4
      by_cases c7 : a1 ≤ 127
      · rw [if_pos c7] at H
        have c7b0 : decide (a1 ≤ 127) = true := decide_eq_true c7
        clear c7
        by_cases c8 : a1 = 14
        · rw [if_pos c8] at H
          have c8b0 : (a1 == 14) = true := beq_iff_eq.mpr c8
          have c8b1 : (a1 != 14) = false := bne_eq_false_iff_eq.mpr c8
          clear c8
          by_cases c9 : a1 ≥ 19968
          · rw [if_pos c9] at H
            have c9b0 : decide (19968 ≤ a1) = true := decide_eq_true c9
            clear c9
            obtain rfl := Option.some.inj H
            go_enter Try.func32, Try.ntmps32
            go_wp2
            go_ret
            exact ⟨by first | rfl | (simp; done) | (simp [*]; done), by repeat (first | exact Drawn0.refl _ | apply Drawn0.step)⟩
          · rw [if_neg c9] at H
            have c9b0 : decide (19968 ≤ a1) = false := decide_eq_false c9
            clear c9
            obtain rfl := Option.some.inj H
            go_enter Try.func32, Try.ntmps32
            go_wp2
            go_ret
            exact ⟨by first | rfl | (simp; done) | (simp [*]; done), by repeat (first | exact Drawn0.refl _ | apply Drawn0.step)⟩
        · rw [if_neg c8] at H
          have c8b0 : (a1 == 14) = false := beq_eq_false_iff_ne.mpr c8
          have c8b1 : (a1 != 14) = true := bne_iff_ne.mpr c8
          by_cases c10 : a1 = 15
          · rw [if_pos c10] at H
            have c10b0 : (a1 == 15) = true := beq_iff_eq.mpr c10
            have c10b1 : (a1 != 15) = false := bne_eq_false_iff_eq.mpr c10
            clear c10
            by_cases c11 : a1 ≥ 19968
            · rw [if_pos c11] at H
              have c11b0 : decide (19968 ≤ a1) = true := decide_eq_true c11
              clear c11
              obtain rfl := Option.some.inj H
              go_enter Try.func32, Try.ntmps32
              go_wp2
              go_ret
              exact ⟨by first | rfl | (simp; done) | (simp [*]; done), by repeat (first | exact Drawn0.refl _ | apply Drawn0.step)⟩
            · rw [if_neg c11] at H
              have c11b0 : decide (19968 ≤ a1) = false := decide_eq_false c11
              clear c11
              obtain rfl := Option.some.inj H
              go_enter Try.func32, Try.ntmps32
              go_wp2
              go_ret
              exact ⟨by first | rfl | (simp; done) | (simp [*]; done), by repeat (first | exact Drawn0.refl _ | apply Drawn0.step)⟩
          · rw [if_neg c10] at H
            have c10b0 : (a1 == 15) = false := beq_eq_false_iff_ne.mpr c10
            have c10b1 : (a1 != 15) = true := bne_iff_ne.mpr c10
            obtain rfl := Option.some.inj H
            go_enter Try.func32, Try.ntmps32
            go_wp2
            go_ret
            exact ⟨by first | rfl | (simp; done) | (simp [*]; done), by repeat (first | exact Drawn0.refl _ | apply Drawn0.step)⟩
      · rw [if_neg c7] at H
        have c7b0 : decide (a1 ≤ 127) = false := decide_eq_false c7
        clear c7
        by_cases c12 : a1 ≥ 19968
        · rw [if_pos c12] at H
          have c12b0 : decide (19968 ≤ a1) = true := decide_eq_true c12
          clear c12
          obtain rfl := Option.some.inj H
          go_enter Try.func32, Try.ntmps32
          go_wp2
          go_ret
          exact ⟨by first | rfl | (simp; done) | (simp [*]; done), by repeat (first | exact Drawn0.refl _ | apply Drawn0.step)⟩
        · rw [if_neg c12] at H
          have c12b0 : decide (19968 ≤ a1) = false := decide_eq_false c12
          clear c12
          obtain rfl := Option.some.inj H
          go_enter Try.func32, Try.ntmps32
          go_wp2
          go_ret
          exact ⟨by first | rfl | (simp; done) | (simp [*]; done), by repeat (first | exact Drawn0.refl _ | apply Drawn0.step)⟩

end Go.Proofs.Ytcekghcejmhhaaa.XBase
