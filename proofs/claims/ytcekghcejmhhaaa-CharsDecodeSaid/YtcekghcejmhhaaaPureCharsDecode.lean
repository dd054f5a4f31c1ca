/- What the law CharsDecode asks of numbers and lists alone: Decode and Count return what the specification returns. -/
import Derived.Test.YtcekghcejmhhaaaXCharsDecodex
import Derived.Test.YtcekghcejmhhaaaCharsRefC
import Derived.Test.YtcekghcejmhhaaaCharsExtA
set_option linter.unusedSimpArgs false
set_option linter.unusedVariables false
set_option linter.unnecessarySimpa false
namespace Go.Proofs.Ytcekghcejmhhaaa.Pure
open Go.RowKit Go.Proofs.Ytcekghcejmhhaaa.XCharsDecode Go.Proofs.YtcekghcejmhhaaaW.PrintWords Go.Proofs.YtcekghcejmhhaaaW.PrintLast Go.Proofs.Ytcekghcejmhhaaa Go.Proofs.Ytcekghcejmhhaaa.Ref

theorem w0 : wrap64 0 = 0 := by unfold wrap64; omega
theorem dec_len : ∀ (enc : Int) (f : Nat) (st a : Int) (b : List Int), (decodeLoop enc f st a b).1.length ≤ f := by
  intro enc f
  induction f with
  | zero => intro st a b; simp [decodeLoop]
  | succ f ih =>
    intro st a b
    rw [decodeLoop_unfold]
    split
    · simp
    · split
      · have := ih (nextC enc st b).st (a + (nextC enc st b).bytes) (b.drop (nextC enc st b).bytes.toNat)
        simp only [List.length_cons]; omega
      · simp
theorem at_pos : ∀ (enc : Int) (f : Nat) (st a : Int) (b : List Int), 0 ≤ a → ∀ e, (decodeLoop enc f st a b).2 = some e → 0 ≤ e := by
  intro enc f
  induction f with
  | zero => intro st a b _ e h; simp [decodeLoop] at h
  | succ f ih =>
    intro st a b ha e h
    rw [decodeLoop_unfold] at h
    split at h
    · simp at h
    · split at h
      · rename_i hk
        have : 0 < (nextC enc st b).bytes := by
          rcases next_kind enc st b with h | h | h
          · exact h.2.1
          · rw [h] at hk; simp [Step.bad] at hk
          · rw [h] at hk; simp [Step.part] at hk
        exact ih _ _ _ (by omega) e h
      · simp at h; omega

set_option maxHeartbeats 1000000 in
theorem CharsDecode : sorobanlaw18_CharsDecode.Pure := by
  intro a0 l1 _ hm _ hl
  clear hm
  refine ⟨45010, ?_⟩
  have hb := wf_u8s hl
  clear hl
  have top : sorobanlaw18_CharsDecode.j0 45010 a0 l1 true = some true := by rw [sorobanlaw18_CharsDecode.j0, if_pos rfl]; rfl
  have main : (l1.length ≤ 2000 ∨ 20000 < l1.length) → sorobanlaw18_CharsDecode.j0 45010 a0 l1 false = some true := by
    intro hn
    rw [sorobanlaw18_CharsDecode.j0, if_neg (by decide), decode_fm hb, Option.bind_some, count_f hb, Option.bind_some]
    dsimp only
    rw [if_pos (show (decodeC a0 l1).2.1 = (decodeC a0 l1).2.1 from rfl), sorobanlaw18_CharsDecode.j1, if_neg (by simp), right_x, Option.bind_some]
    by_cases he : encOk a0
    · have hs0 : stOk a0 0 := stOk_of (fun _ => .inl rfl) (fun _ => rfl)
      rw [if_pos (by simpa using And.intro he hs0)]
      by_cases hlong : 20000 < l1.length
      · have e1 : decodeC a0 l1 = ([], 2, 0) := by unfold decodeC; rw [if_neg (by simpa using he), if_pos hlong]
        rw [if_pos (by omega), e1, sanity_f, Option.bind_some]
        simp [w0]
      · rw [if_neg (by omega), decodeC_of he (by omega)]
        obtain ⟨s, hs⟩ := decode_ref he hb (by omega) (k := 45008) (by omega)
        have hlen := dec_len a0 l1.length 0 0 l1
        have hpos := at_pos a0 l1.length 0 0 l1 (by omega)
        rw [hs, Option.bind_some]
        obtain ⟨os, o, hR⟩ : ∃ os o, decodeLoop a0 l1.length 0 0 l1 = (os, o) := ⟨_, _, rfl⟩
        rw [hR] at hlen hpos ⊢
        unfold readR
        cases o with
        | some e =>
          have := hpos e rfl
          dsimp only
          rw [if_pos (show e ≥ 0 from this), sanity_f, Option.bind_some]
          simp [w0]
        | none =>
          dsimp only at hlen ⊢
          rw [if_neg (by decide), sanity_f, Option.bind_some, if_pos rfl, if_pos rfl, if_pos rfl, List.nil_append, characters_f (by rw [List.length_map]; omega), Option.bind_some]
          simp
    · have e1 : decodeC a0 l1 = ([], 1, 0) := by unfold decodeC; rw [if_pos (by simpa using he)]
      rw [if_neg (by simp [he]), e1, sanity_f, Option.bind_some]
      simp [w0]
  unfold sorobanlaw18_CharsDecode.f
  by_cases c1 : (l1.length : Int) > 2000
  · rw [if_pos c1]
    by_cases c2 : (l1.length : Int) ≤ 20000
    · rw [if_pos c2]; exact top
    · rw [if_neg c2]
      by_cases c3 : (l1.length : Int) > 20100
      · rw [decide_eq_true c3]; exact top
      · rw [decide_eq_false c3]; exact main (by omega)
  · rw [if_neg c1, decide_eq_false (by omega)]; exact main (by omega)
end Go.Proofs.Ytcekghcejmhhaaa.Pure
