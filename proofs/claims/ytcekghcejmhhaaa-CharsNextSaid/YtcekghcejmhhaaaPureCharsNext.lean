/- What the law CharsNext asks of numbers and lists alone: Next, Valid, Put, Reset and Space return what the specification returns. -/
import Derived.Test.YtcekghcejmhhaaaXCharsNextx
import Derived.Test.YtcekghcejmhhaaaCharsExtN
import Derived.Test.YtcekghcejmhhaaaCharsExtM
set_option linter.unusedSimpArgs false
set_option linter.unusedVariables false
set_option linter.unnecessarySimpa false
namespace Go.Proofs.Ytcekghcejmhhaaa.Pure
open Go.RowKit Go.Proofs.Ytcekghcejmhhaaa.XCharsNext Go.Proofs.YtcekghcejmhhaaaW.PrintWords Go.Proofs.YtcekghcejmhhaaaW.PrintLast Go.Proofs.Ytcekghcejmhhaaa

theorem w0 : wrap64 0 = 0 := by unfold wrap64; omega
theorem j3_f {enc st c : Int} {k : Nat} (he : encOk enc) (hs : stOk enc st) (h0 : 0 ≤ c) : sorobanlaw18_CharsNext.j3 (k + 1) enc st c (putE enc st c).1 (putE enc st c).2.1 (putE enc st c).2.2 false = some true := by
  have h01 : st = 0 ∨ st = 1 := by
    have := stOk_to hs
    rcases Classical.em (enc = 3) with h | h
    · exact this.1 h
    · exact .inl (this.2 h)
  rw [sorobanlaw18_CharsNext.j3, if_neg (by decide), has_x he, Option.bind_some]
  by_cases hc : hasC enc c = true
  · have e : putE enc st c = ((putC enc st c).1, (putC enc st c).2, 0) := by unfold putE; rw [if_pos (And.intro he hs), if_pos hc]
    rw [e, if_pos hc, put_x he h01 h0 hc, Option.bind_some, sanity_f, Option.bind_some]
    simp
  · have e : putE enc st c = ([], 0, 15) := by unfold putE; rw [if_pos (And.intro he hs), if_neg hc]
    rw [e, if_neg hc, sanity_f, Option.bind_some]
    simp [w0]

set_option maxHeartbeats 1000000 in
theorem CharsNext : sorobanlaw18_CharsNext.Pure := by
  intro a0 a1 l2 a3 _ _ hm _ hl h3
  clear hm
  refine ⟨5, ?_⟩
  have hu := wf_u8s hl
  have h0 : 0 ≤ a3 := by
    simp [Lit.wf, IntKind.min, IntKind.max, IntKind.signed, IntKind.bits] at h3; omega
  clear hl h3
  unfold sorobanlaw18_CharsNext.f
  by_cases c1 : (l2.length : Int) > 20100
  · rw [if_pos c1]; rfl
  · rw [if_neg c1, next_f hu, Option.bind_some, valid_x, Option.bind_some, put_c h0, Option.bind_some, reset_c, Option.bind_some]
    have main : sorobanlaw18_CharsNext.j0 5 a0 a1 l2 a3 (nextE a0 a1 l2).2.2.2.2 (validE a0 a3).1 (validE a0 a3).2 (putE a0 a1 a3).1 (putE a0 a1 a3).2.1 (putE a0 a1 a3).2.2 (resetE a0 a1).1 (resetE a0 a1).2 false (nextE a0 a1 l2).1 (nextE a0 a1 l2).2.1 (nextE a0 a1 l2).2.2.1 (nextE a0 a1 l2).2.2.2.1 = some true := by
      have hj1 : sorobanlaw18_CharsNext.j1 4 a0 a1 l2 a3 (nextE a0 a1 l2).2.2.2.2 (putE a0 a1 a3).1 (putE a0 a1 a3).2.1 (putE a0 a1 a3).2.2 (resetE a0 a1).1 (resetE a0 a1).2 (nextE a0 a1 l2).1 (nextE a0 a1 l2).2.1 (nextE a0 a1 l2).2.2.1 (nextE a0 a1 l2).2.2.2.1 = some true := by
        rw [sorobanlaw18_CharsNext.j1, right_x, Option.bind_some]
        by_cases hok : encOk a0 ∧ stOk a0 a1
        · obtain ⟨he, hs⟩ := hok
          have h01 : a1 = 0 ∨ a1 = 1 := by
            have := stOk_to hs
            rcases Classical.em (a0 = 3) with h | h
            · exact this.1 h
            · exact .inl (this.2 h)
          have hj2 : sorobanlaw18_CharsNext.j2 3 a0 a1 a3 (putE a0 a1 a3).1 (putE a0 a1 a3).2.1 (putE a0 a1 a3).2.2 (resetE a0 a1).1 (resetE a0 a1).2 = some true := by
            have hr : resetE a0 a1 = (turnC a1 0, 0) := by unfold resetE; rw [if_pos ⟨he, hs⟩]
            rw [sorobanlaw18_CharsNext.j2, hr]
            dsimp only
            rw [if_pos (show (0 : Int) = 0 from rfl), reset_x h01, Option.bind_some, show ((strOfNums (turnC a1 0)).toList != (strOfNums (turnC a1 0)).toList) = false by simp]
            exact j3_f he hs h0
          rw [if_pos (by simpa using And.intro he hs)]
          by_cases hlong : l2.length ≤ 20000
          · have hL : ¬ (l2.length : Int) > 20000 := by omega
            rw [nextE_ok he hs hlong, if_neg hL]
            dsimp only
            rw [if_pos (show (0 : Int) = 0 from rfl), next_x he h01 hu hlong, Option.bind_some]
            unfold Ref.T
            dsimp only
            rw [if_neg (by simp)]
            exact hj2
          · have hL : (l2.length : Int) > 20000 := by omega
            have e : nextE a0 a1 l2 = (0, 0, 0, 0, 2) := by unfold nextE; rw [if_pos (And.intro he hs), if_neg hlong]
            rw [e, if_pos hL]
            dsimp only
            rw [if_pos (show (2 : Int) = 2 from rfl), if_neg (by simp)]
            exact hj2
        · have hn : nextE a0 a1 l2 = (0, 0, 0, 0, 1) := nextE_no hok
          have hp : putE a0 a1 a3 = ([], 0, 1) := by unfold putE; rw [if_neg hok]
          have hr : resetE a0 a1 = ([], 1) := by unfold resetE; rw [if_neg hok]
          rw [if_neg (by simpa using hok), hn, hp, hr, sanity_f, Option.bind_some]
          simp [w0]
      rw [sorobanlaw18_CharsNext.j0, if_neg (by decide), right_x, Option.bind_some]
      unfold validE
      by_cases he : encOk a0
      · have hs0 : stOk a0 0 := stOk_of (fun _ => .inl rfl) (fun _ => rfl)
        rw [if_pos (by simpa using And.intro he hs0), if_pos he]
        dsimp only
        rw [if_pos (show (0 : Int) = 0 from rfl), has_x he, Option.bind_some, if_neg (by simp)]
        exact hj1
      · rw [if_neg (by simp [he]), if_neg he]
        dsimp only
        rw [if_pos (show (1 : Int) = 1 from rfl), if_neg (by decide)]
        exact hj1
    unfold chars_Space.f
    by_cases d1 : a3 ≥ 9
    · rw [if_pos d1]
      by_cases d2 : a3 ≤ 13
      · rw [if_pos d2, Option.bind_some, if_pos d1, if_pos d2, show (true != true) = false from rfl]; exact main
      · rw [if_neg d2, Option.bind_some, if_pos d1, if_neg d2, show ((a3 == 32) != (a3 == 32)) = false by simp]; exact main
    · rw [if_neg d1, Option.bind_some, if_neg d1, show ((a3 == 32) != (a3 == 32)) = false by simp]; exact main
end Go.Proofs.Ytcekghcejmhhaaa.Pure
