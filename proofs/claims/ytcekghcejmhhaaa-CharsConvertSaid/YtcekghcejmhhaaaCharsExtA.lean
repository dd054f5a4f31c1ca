/- The specification's Right (as the kit's printer tells it): what it returns, in the form that the printed walks ask for. -/
import Derived.Test.YtcekghcejmhhaaaXBasex2
import Derived.Test.YtcekghcejmhhaaaCharsLawF
set_option linter.unusedSimpArgs false
set_option linter.unusedVariables false
set_option linter.unnecessarySimpa false
namespace Go.Proofs.Ytcekghcejmhhaaa.RefP
open Go.RowKit Go.Proofs.YtcekghcejmhhaaaW.PrintWords Go.Proofs.YtcekghcejmhhaaaW.PrintLast Go.Proofs.YtcekghcejmhhaaaW.PrintMore Go.Proofs.Ytcekghcejmhhaaa Go.Proofs.Ytcekghcejmhhaaa.XBase

theorem right_f {enc st : Int} : sorobanref18_Right.f enc st = some (decide (encOk enc ∧ stOk enc st)) := by
  unfold sorobanref18_Right.f
  by_cases he : encOk enc
  · by_cases hs : stOk enc st
    · rw [decide_eq_true ⟨he, hs⟩]
      have h01 := stOk_to hs
      obtain ⟨h1, h2⟩ := he
      rw [if_pos (show enc ≥ 1 from h1), if_pos h2]
      by_cases h0 : st = 0
      · rw [if_pos h0]
      · have h3 : enc = 3 := by
          rcases Classical.em (enc = 3) with h | h
          · exact h
          · exact absurd (h01.2 h) h0
        have h4 : st = 1 := by have := h01.1 h3; omega
        rw [if_neg h0, if_pos h4, h3]; rfl
    · rw [decide_eq_false (fun h => hs h.2)]
      obtain ⟨h1, h2⟩ := he
      unfold stOk statesC at hs
      rw [if_pos (show enc ≥ 1 from h1), if_pos h2]
      by_cases h3 : enc = 3
      · rw [if_pos h3] at hs
        rw [if_neg (by omega), if_neg (by omega)]
      · rw [if_neg h3] at hs
        rw [if_neg (by omega)]
        by_cases h4 : st = 1
        · rw [if_pos h4]; simp [h3]
        · rw [if_neg h4]
  · rw [decide_eq_false (fun h => he h.1)]
    by_cases h1 : enc ≥ 1
    · rw [if_pos h1, if_neg (fun h2 => he ⟨h1, h2⟩)]
    · rw [if_neg h1]
end Go.Proofs.Ytcekghcejmhhaaa.RefP

namespace Go.Proofs.Ytcekghcejmhhaaa
open Go.RowKit Go.Proofs.YtcekghcejmhhaaaW.PrintWords Go.Proofs.YtcekghcejmhhaaaW.PrintLast Go.Proofs.YtcekghcejmhhaaaW.PrintMore
def sorobanref18_Right.f (a0 a1 : Int) : Option Bool := some (decide (encOk a0 ∧ stOk a0 a1))
theorem sorobanref18_Right.calls (a0 a1 : Int) (r : Bool) (w : World) (h : sorobanref18_Right.f a0 a1 = some r) :
    Calls Try.prog 16 #[.int .i64 a0, .int .i64 a1] w fun e w' => e = .returned (.bool r) ∧ Below w.heap.size w w' :=
  (XBase.sorobanref18_Right.calls a0 a1 r w (RefP.right_f.trans h)).mono fun e w' ⟨h1, h2⟩ => ⟨h1, h2.below⟩
theorem right_x {enc st : Int} : sorobanref18_Right.f enc st = some (decide (encOk enc ∧ stOk enc st)) := rfl
end Go.Proofs.Ytcekghcejmhhaaa
