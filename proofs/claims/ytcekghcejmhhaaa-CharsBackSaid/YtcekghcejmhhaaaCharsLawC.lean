/- Plain laws of the layer 'chars', 3: there and back. No Go here. -/
import Derived.Test.YtcekghcejmhhaaaCharsLawB
set_option linter.unusedSimpArgs false
set_option linter.unusedVariables false
set_option linter.unnecessarySimpa false
namespace Go.Proofs.Ytcekghcejmhhaaa

theorem next_st {enc st : Int} {b : List Int} (he : encOk enc) (hs : stC enc st) (hb : ∀ x ∈ b, 0 ≤ x ∧ x ≤ 255) (h : (nextC enc st b).kind = 1) : stC enc (nextC enc st b).st ∧ (¬ enc = 3 → (nextC enc st b).st = 0) :=
  ⟨fun h3 => by subst h3; exact nextC_st3 (hs rfl), fun h3 => by rw [← (put_next he hs hb h).state]; exact put_st he h3⟩

theorem enc_dec {enc : Int} (he : encOk enc) : ∀ (f : Nat) (st a : Int) (b : List Int) (os : List (Int × Int)), stC enc st → (¬ enc = 3 → st = 0) → (∀ x ∈ b, 0 ≤ x ∧ x ≤ 255) → b.length ≤ f → decodeLoop enc f st a b = (os, none) →
    ∃ (bs : List Int) (st' : Int), (∀ i, encLoop enc st i (os.map (·.2)) = (bs, st', none)) ∧ bs.length ≤ b.length ∧ (¬ enc = 3 → bs = b) ∧ stC enc st' ∧ (¬ enc = 3 → st' = 0) ∧ (∀ c ∈ os.map (·.2), 0 ≤ c) ∧ os.length ≤ b.length
  | 0, st, a, b, os, hs, hz, hb, hf, h => by
    have : b = [] := List.length_eq_zero_iff.1 (by omega)
    subst this
    simp only [decodeLoop, Prod.mk.injEq] at h
    obtain ⟨rfl, _⟩ := h
    exact ⟨[], st, fun i => rfl, by simp, fun _ => rfl, hs, hz, by simp, by simp⟩
  | f + 1, st, a, b, os, hs, hz, hb, hf, h => by
    rw [decodeLoop_unfold] at h
    by_cases hp : passedC enc b = true
    · rw [if_pos hp] at h
      obtain ⟨rfl, _⟩ := Prod.mk.inj h
      refine ⟨[], st, fun i => rfl, by simp, fun h3 => ?_, hs, hz, by simp, by simp⟩
      unfold passedC at hp
      rw [if_neg h3] at hp
      simpa using hp.symm
    · rw [if_neg hp] at h
      by_cases hk : (nextC enc st b).kind = 1
      · rw [if_pos hk] at h
        have hn := put_next he hs hb hk
        have hst := next_st he hs hb hk
        have hby := nextC_bytes hk
        obtain ⟨S, hS⟩ : ∃ S, S = nextC enc st b := ⟨_, rfl⟩
        rw [← hS] at h hn hst hby
        obtain ⟨D, hD⟩ : ∃ D, D = decodeLoop enc f S.st (a + S.bytes) (b.drop S.bytes.toNat) := ⟨_, rfl⟩
        rw [← hD] at h
        obtain ⟨os', o⟩ := D
        simp only [Prod.mk.injEq] at h
        obtain ⟨rfl, rfl⟩ := h
        obtain ⟨bs, st', q1, q2, q3, q4, q5, q6, q7⟩ := enc_dec he f S.st (a + S.bytes) (b.drop S.bytes.toNat) os' hst.1 hst.2 (fun x hx => hb x (List.mem_of_mem_drop hx)) (by rw [List.length_drop]; omega) hD.symm
        rw [List.length_drop] at q2 q7
        have hl := hn.len
        refine ⟨(putC enc st S.ch).1 ++ bs, st', fun i => ?_, ?_, fun h3 => ?_, q4, q5, ?_, ?_⟩
        · rw [List.map_cons, encLoop_cons hn.has, hn.state, q1]
        · rw [List.length_append]; omega
        · rw [q3 h3, hn.same h3, List.take_append_drop]
        · intro c hc
          rw [List.map_cons] at hc
          rcases List.mem_cons.1 hc with rfl | hc
          · exact hn.ch
          · exact q6 c hc
        · simp; omega
      · rw [if_neg hk] at h
        simp at h

theorem turnC_len2 (s t : Int) : (turnC s t).length ≤ 1 := by unfold turnC; split <;> (try split) <;> simp
/-- There and back. -/
theorem back_of_dec {enc : Int} (he : encOk enc) {b m : List Int} (hb : ∀ x ∈ b, 0 ≤ x ∧ x ≤ 255) (hn : b.length ≤ 19999) (h : decodeC enc b = (m, 0, 0)) :
    ∃ q, encodeC enc m = (q, 0, 0) ∧ q.length ≤ b.length + 1 ∧ (¬ enc = 3 → q = b) ∧ decodeC enc q = (m, 0, 0) ∧ m.length ≤ b.length ∧ (∀ c ∈ m, 0 ≤ c) := by
  unfold decodeC at h
  rw [if_neg (by simpa using he), if_neg (by omega)] at h
  obtain ⟨D, hD⟩ : ∃ D, D = decodeLoop enc b.length 0 0 b := ⟨_, rfl⟩
  rw [← hD] at h
  obtain ⟨os, o⟩ := D
  cases o with
  | some i => simp at h
  | none =>
    simp only [Prod.mk.injEq] at h
    obtain ⟨rfl, _⟩ := h
    obtain ⟨bs, st', q1, q2, q3, q4, q5, q6, q7⟩ := enc_dec he b.length 0 0 b os (fun _ => .inl rfl) (fun _ => rfl) hb (Nat.le_refl _) hD.symm
    have ht := turnC_len2 st' 0
    have hE : encodedC enc (os.map (·.2)) = (bs ++ turnC st' 0, 0, 0) := by
      unfold encodedC
      rw [q1 0]
      simp only
      rw [if_neg (by rw [List.length_append]; omega)]
    refine ⟨bs ++ turnC st' 0, ?_, by rw [List.length_append]; omega, fun h3 => ?_, (dec_of_enc he q6 hE rfl).1, by simpa using q7, q6⟩
    · unfold encodeC
      rw [if_neg (by simpa using he), if_neg (by rw [List.length_map]; omega)]
      exact hE
    · rw [q3 h3, q5 h3]; simp [turnC]

theorem dec_err {enc : Int} (he : encOk enc) {b : List Int} (hn : b.length ≤ 20000) : (decodeC enc b).2.1 = 0 ∧ (decodeC enc b).2.2 = 0 ∨ (decodeC enc b).2.1 = 15 ∧ (decodeC enc b).1 = [] := by
  unfold decodeC
  rw [if_neg (by simpa using he), if_neg (by omega)]
  simp only
  split
  · exact .inl ⟨rfl, rfl⟩
  · exact .inr ⟨rfl, rfl⟩
theorem encode_eq {enc : Int} (he : encOk enc) {l : List Int} (hn : l.length ≤ 20000) : encodeC enc l = encodedC enc l := by
  unfold encodeC
  rw [if_neg (by simpa using he), if_neg (by omega)]
end Go.Proofs.Ytcekghcejmhhaaa
