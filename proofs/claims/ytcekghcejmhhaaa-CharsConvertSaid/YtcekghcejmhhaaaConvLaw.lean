/- Plain laws of the layer 'chars', 8: from one encoding to another. No Go here. -/
import Derived.Test.YtcekghcejmhhaaaChK7
import Derived.Test.YtcekghcejmhhaaaCharsLawF
set_option linter.unusedSimpArgs false
set_option linter.unusedVariables false
set_option linter.unnecessarySimpa false
namespace Go.Proofs.Ytcekghcejmhhaaa

theorem convert_f {fr tt : Int} {l : List Int} (h : ∀ x ∈ l, 0 ≤ x ∧ x ≤ 255) : chars_Convert.f fr tt l = some (convertC fr tt l) := by unfold chars_Convert.f; rw [if_pos (bytB_mk h)]
/-- Converting is decoding and encoding. -/
theorem conv_err {fr tt : Int} (h1 : encOk fr) (h2 : encOk tt) {b : List Int} (hn : b.length ≤ 20000) {a : Int} (h : (decodeLoop fr b.length 0 0 b).2 = some a) : convertC fr tt b = ([], 15, a) := by
  unfold convertC
  rw [if_neg (by simpa using h1), if_neg (by simpa using h2), if_neg (by omega)]
  simp only [h]
theorem conv_ok {fr tt : Int} (h1 : encOk fr) (h2 : encOk tt) {b : List Int} (hn : b.length ≤ 20000) (h : (decodeLoop fr b.length 0 0 b).2 = none) :
    convertC fr tt b = if (encodedC tt ((decodeLoop fr b.length 0 0 b).1.map (·.2))).2.1 = 15 then ([], 15, ((decodeLoop fr b.length 0 0 b).1.map (·.1)).getD (encodedC tt ((decodeLoop fr b.length 0 0 b).1.map (·.2))).2.2.toNat 0) else encodedC tt ((decodeLoop fr b.length 0 0 b).1.map (·.2)) := by
  unfold convertC
  rw [if_neg (by simpa using h1), if_neg (by simpa using h2), if_neg (by omega)]
  simp only [h]
theorem decC_none {fr : Int} (h1 : encOk fr) {b : List Int} (hn : b.length ≤ 20000) (h : (decodeLoop fr b.length 0 0 b).2 = none) : decodeC fr b = ((decodeLoop fr b.length 0 0 b).1.map (·.2), 0, 0) := by
  unfold decodeC
  rw [if_neg (by simpa using h1), if_neg (by omega)]
  simp only [h]
theorem decC_inv {fr : Int} (h1 : encOk fr) {b m : List Int} (hn : b.length ≤ 20000) (h : decodeC fr b = (m, 0, 0)) : (decodeLoop fr b.length 0 0 b).2 = none ∧ (decodeLoop fr b.length 0 0 b).1.map (·.2) = m := by
  unfold decodeC at h
  rw [if_neg (by simpa using h1), if_neg (by omega)] at h
  dsimp only at h
  cases hh : (decodeLoop fr b.length 0 0 b).2 with
  | none => rw [hh] at h; simp at h; exact ⟨rfl, h⟩
  | some a => rw [hh] at h; simp at h
theorem enc_short {tt : Int} {m : List Int} (hm : m.length ≤ 4000) : (∃ i, (encodedC tt m) = ([], 15, i) ∧ (encLoop tt 0 0 m).2.2 = some i) ∨ (∃ bs, encodedC tt m = (bs, 0, 0) ∧ (encLoop tt 0 0 m).2.2 = none ∧ bs = (encLoop tt 0 0 m).1 ++ turnC (encLoop tt 0 0 m).2.1 0) := by
  have hl := encLoop_len (enc := tt) m 0 0
  have ht := turnC_len2 (encLoop tt 0 0 m).2.1 0
  unfold encodedC
  dsimp only
  cases hh : (encLoop tt 0 0 m).2.2 with
  | some i => exact .inl ⟨i, rfl, rfl⟩
  | none =>
    refine .inr ⟨_, ?_, rfl, rfl⟩
    dsimp only
    rw [if_neg (by rw [List.length_append]; omega)]

theorem trip_law {fr tt : Int} (h1 : encOk fr) (h2 : encOk tt) {b : List Int} (hb : ∀ x ∈ b, 0 ≤ x ∧ x ≤ 255) (hn : b.length ≤ 1000) :
    (∃ a, convertC fr tt b = ([], 15, a)) ∨ ∃ m c q, convertC fr tt b = (c, 0, 0) ∧ decodeC fr b = (m, 0, 0) ∧ decodeC tt c = (m, 0, 0) ∧ convertC tt fr c = (q, 0, 0) ∧ decodeC fr q = (m, 0, 0) ∧ (∀ x ∈ c, 0 ≤ x ∧ x ≤ 255) ∧ (∀ x ∈ q, 0 ≤ x ∧ x ≤ 255) ∧ m.length ≤ 1000 := by
  cases hD : (decodeLoop fr b.length 0 0 b).2 with
  | some a => exact .inl ⟨a, conv_err h1 h2 (by omega) hD⟩
  | none =>
    have hc := conv_ok h1 h2 (by omega) hD
    have hd := decC_none h1 (by omega) hD
    have hm : ((decodeLoop fr b.length 0 0 b).1.map (·.2)).length ≤ 1000 := by
      rw [List.length_map]
      exact Nat.le_trans (decodeLoop_len fr _ _ _ _) hn
    generalize (decodeLoop fr b.length 0 0 b).1.map (·.2) = m at hc hd hm
    rcases enc_short (tt := tt) (m := m) (by omega) with ⟨i, hi, _⟩ | ⟨bs, hbs, _⟩
    · rw [if_pos (by rw [hi])] at hc
      exact .inl ⟨_, hc⟩
    · rw [if_neg (by rw [hbs]; simp)] at hc
      rw [hbs] at hc
      obtain ⟨q, e1, _, _, e4, _, e6⟩ := back_of_dec h1 hb (by omega) hd
      obtain ⟨g1, g2, g3⟩ := dec_of_enc h2 e6 hbs rfl
      obtain ⟨k1, k2⟩ := decC_inv h2 g2 g1
      rw [encode_eq h1 (by omega)] at e1
      have hc2 := conv_ok h2 h1 g2 k1
      rw [k2, e1, if_neg (by simp)] at hc2
      have y1 := encode_byt (enc := tt) e6
      have y2 := encode_byt (enc := fr) e6
      rw [encode_eq h2 (by omega), hbs] at y1
      rw [encode_eq h1 (by omega), e1] at y2
      exact .inr ⟨m, bs, q, hc, hd, g1, hc2, e4, y1.mem, y2.mem, hm⟩
end Go.Proofs.Ytcekghcejmhhaaa
