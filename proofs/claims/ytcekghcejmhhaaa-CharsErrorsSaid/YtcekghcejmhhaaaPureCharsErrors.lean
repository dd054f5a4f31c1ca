/- What the law CharsErrors asks of numbers and lists alone: ahead of the offset of an error bytes are read without one; there no whole character stands. -/
import Derived.Test.YtcekghcejmhhaaaXCharsErrorsx
import Derived.Test.YtcekghcejmhhaaaCharsLawF
set_option linter.unusedSimpArgs false
set_option linter.unusedVariables false
set_option linter.unnecessarySimpa false
namespace Go.Proofs.Ytcekghcejmhhaaa.Pure
open Go.RowKit Go.Proofs.Ytcekghcejmhhaaa.XCharsErrors Go.Proofs.YtcekghcejmhhaaaW.PrintWords Go.Proofs.YtcekghcejmhhaaaW.PrintLast Go.Proofs.Ytcekghcejmhhaaa

theorem state_l0 {enc : Int} (he : encOk enc) : ∀ (f k : Nat) (st : Int) (b : List Int), f < k → b.length ≤ f → b.length ≤ 20000 → (∀ x ∈ b, 0 ≤ x ∧ x ≤ 255) → stC enc st → (¬ enc = 3 → st = 0) →
    sorobanlaw18_state.l0 k enc b st = some (stateLoop enc f st b)
  | f, 0, st, b, hk, _, _, _, _, _ => by omega
  | 0, k + 1, st, b, hk, hf, hn, hb, hs, hz => by
    obtain rfl : b = [] := List.length_eq_zero_iff.1 (by omega)
    rw [sorobanlaw18_state.l0, if_neg (by simp), stateLoop_nil]
  | f + 1, k + 1, st, b, hk, hf, hn, hb, hs, hz => by
    rw [sorobanlaw18_state.l0, stateLoop]
    by_cases hnil : b = []
    · subst hnil
      rw [if_neg (by simp), if_pos (show ([] : List Int) = [] from rfl)]
    · have hlen : (b.length : Int) > 0 := by cases b with | nil => exact absurd rfl hnil | cons _ _ => simp
      rw [if_pos hlen, if_neg hnil, next_f hb, nextE_ok he (stOk_of hs hz) hn]
      simp only [Option.bind_some, if_true]
      by_cases hk1 : (nextC enc st b).kind = 1
      · rw [if_pos hk1, if_pos hk1]
        obtain ⟨_, h0, hle⟩ : (nextC enc st b).kind = 1 ∧ 0 < (nextC enc st b).bytes ∧ (nextC enc st b).bytes ≤ b.length := by
          rcases next_kind enc st b with h | h | h
          · exact h
          · rw [h] at hk1; simp [Step.bad] at hk1
          · rw [h] at hk1; simp [Step.part] at hk1
        rw [if_pos (by omega), if_pos hle]
        have hnx := next_st he hs hb hk1
        exact state_l0 he f k _ _ (by omega) (by rw [List.length_drop]; omega) (by rw [List.length_drop]; omega) (fun x hx => hb x (List.mem_of_mem_drop hx)) hnx.1 hnx.2
      · rw [if_neg hk1, if_neg hk1]

set_option maxHeartbeats 1000000 in
theorem CharsErrors : sorobanlaw18_CharsErrors.Pure := by
  intro a0 l1 h0 hm _ hl
  clear hm
  refine ⟨1100, ?_⟩
  have hu := wf_u8s hl
  have hx := wf_u8 h0
  unfold sorobanlaw18_CharsErrors.f
  by_cases c1 : (l1.length : Int) > 1000
  · rw [if_pos c1]; rfl
  · have hen : encOk (1 + a0 % 3) := by unfold encOk; omega
    rw [if_neg c1, which_f hx]
    generalize 1 + a0 % 3 = enc at hen
    simp only [Option.bind_some, decode_fm hu]
    by_cases h0 : (decodeC enc l1).2.1 = 0
    · rw [if_pos h0]
      have her := dec_err hen (b := l1) (by omega)
      have ha : (decodeC enc l1).2.2 = 0 := by rcases her with h | h; exact h.2; rw [h.1] at h0; exact absurd h0 (by decide)
      rw [ha]; rfl
    · rw [if_neg h0]
      obtain ⟨m, hD, hm, hD2, st, hst, hs1, hs2, hk⟩ := err_law hen hu (by omega) h0
      rw [hD]
      dsimp only
      rw [if_neg (by omega)]
      have hd : decide ((m : Int) ≥ (l1.length : Int)) = false := by simp; omega
      rw [hd, sorobanlaw18_CharsErrors.j0, if_neg (by decide), if_pos (by omega), if_pos (by omega), Int.toNat_natCast]
      have ht : ∀ x ∈ l1.take m, 0 ≤ x ∧ x ≤ 255 := fun x hx => hu x (List.mem_of_mem_take hx)
      have hdr : ∀ x ∈ l1.drop m, 0 ≤ x ∧ x ≤ 255 := fun x hx => hu x (List.mem_of_mem_drop hx)
      have hlt : (l1.take m).length = m := by rw [List.length_take]; omega
      rw [decode_fm ht]
      unfold sorobanlaw18_state.f
      rw [state_l0 hen m 1099 0 (l1.take m) (by omega) (by omega) (by omega) ht (fun _ => .inl rfl) (fun _ => rfl), ← hst, Option.bind_some, Option.bind_some, next_f hdr, nextE_ok hen (stOk_of hs1 hs2) (by rw [List.length_drop]; omega), Option.bind_some, sanity_f, Option.bind_some]
      simp [hD2, hk]
end Go.Proofs.Ytcekghcejmhhaaa.Pure
