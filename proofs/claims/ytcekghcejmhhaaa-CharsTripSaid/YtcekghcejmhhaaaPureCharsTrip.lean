/- What the law CharsTrip asks of numbers and lists alone: what Convert returns is read as the same characters; converting back gives the same characters. -/
import Derived.Test.YtcekghcejmhhaaaXCharsTripx
import Derived.Test.YtcekghcejmhhaaaConvLaw
set_option linter.unusedSimpArgs false
set_option linter.unusedVariables false
set_option linter.unnecessarySimpa false
namespace Go.Proofs.Ytcekghcejmhhaaa.Pure
open Go.RowKit Go.Proofs.Ytcekghcejmhhaaa.XCharsTrip Go.Proofs.YtcekghcejmhhaaaW.PrintWords Go.Proofs.YtcekghcejmhhaaaW.PrintLast Go.Proofs.Ytcekghcejmhhaaa

theorem CharsTrip : sorobanlaw18_CharsTrip.Pure := by
  intro a0 a1 l2 h0 h1 hm _ hl
  clear hm
  have hb := wf_u8s hl
  have q0 := wf_u8 h0
  have q1 := wf_u8 h1
  clear hl h0 h1
  unfold sorobanlaw18_CharsTrip.f
  by_cases hn : (l2.length : Int) > 1000
  · rw [if_pos hn, sanity_f]; rfl
  · rw [if_neg hn, which_f q0, which_f q1, Option.bind_some, Option.bind_some, convert_f hb, Option.bind_some]
    have e1 : encOk (1 + a0 % 3) := by unfold encOk; omega
    have e2 : encOk (1 + a1 % 3) := by unfold encOk; omega
    rcases trip_law e1 e2 hb (by omega) with ⟨a, ha⟩ | ⟨m, c, q, k1, k2, k3, k4, k5, k6, k7, k8⟩
    · rw [ha, if_neg (by simp), sanity_f]; rfl
    · rw [k1, if_pos rfl, decode_fm hb, k2, Option.bind_some, decode_fm k6, k3, Option.bind_some, convert_f k6, k4, Option.bind_some, decode_fm k7, k5, Option.bind_some, sanity_f, Option.bind_some, if_pos rfl, if_pos rfl, if_pos rfl, if_pos rfl, if_pos rfl, characters_f (by dsimp only; omega), Option.bind_some]
      simp
end Go.Proofs.Ytcekghcejmhhaaa.Pure
