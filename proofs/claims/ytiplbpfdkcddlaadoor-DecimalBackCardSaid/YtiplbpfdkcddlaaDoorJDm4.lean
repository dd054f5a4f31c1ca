/- decimal.Decode of what the others share: its walk. -/
import Derived.Test.YtiplbpfdkcddlaaDoorJD11
set_option linter.unusedSimpArgs false
set_option linter.unusedVariables false
set_option linter.unnecessarySimpa false
namespace Go.Proofs.YtiplbpfdkcddlaaDoor
open Go.RowKit Go.Proofs.YtiplbpfdkcddlaaDoorW.PrintWords Go.Proofs.YtiplbpfdkcddlaaDoorW.PrintLast Go.Proofs.YtiplbpfdkcddlaaDoorW.PrintMore Go.Proofs.YtiplbpfdkcddlaaDoor.NL
set_option maxRecDepth 100000
set_option exponentiation.threshold 33000

theorem Chg.dr {w w1 : World} {S : Nat → Prop} (h : Chg w w1 S) : Chg w w1.drew S := ⟨h.os, h.tape, h.output, h.size, h.block⟩
theorem wd_zero {N : Nat} {hi lo : Int} (h : Wd N hi lo) : (hi == 0 && (lo == 0)) = decide (N = 0) := by
  obtain ⟨a0, a1, b0, b1, e⟩ := h
  by_cases h0 : N = 0
  · have e1 : hi = 0 := by omega
    have e2 : lo = 0 := by omega
    rw [decide_eq_true h0, e1, e2]; rfl
  · rw [decide_eq_false h0]
    by_cases e1 : hi = 0
    · have e2 : lo ≠ 0 := by omega
      rw [beq_eq_false_iff_ne.mpr e2, Bool.and_false]
    · rw [beq_eq_false_iff_ne.mpr e1, Bool.false_and]
end Go.Proofs.YtiplbpfdkcddlaaDoor
