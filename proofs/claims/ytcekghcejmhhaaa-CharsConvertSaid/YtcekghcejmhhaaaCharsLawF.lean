/- Plain laws of the layer 'chars', 6: the functions of the contracts, at what the laws give them. -/
import Derived.Test.YtcekghcejmhhaaaCharsExt
set_option linter.unusedSimpArgs false
set_option linter.unusedVariables false
set_option linter.unnecessarySimpa false
namespace Go.Proofs.Ytcekghcejmhhaaa
open Go.RowKit

theorem wf_u8 {a : Int} (h : (Lit.int .u8 a).wf = true) : 0 ≤ a ∧ a ≤ 255 := by
  simp [Lit.wf, IntKind.min, IntKind.max, IntKind.signed, IntKind.bits] at h; omega
theorem wf_u8s {l : List Int} (h : ∀ x ∈ l, (Lit.int .u8 x).wf = true) : ∀ x ∈ l, 0 ≤ x ∧ x ≤ 255 := fun x hx => wf_u8 (h x hx)
theorem wf_u32 {l : List Int} (h : ∀ x ∈ l, (Lit.int .u32 x).wf = true) : ∀ x ∈ l, 0 ≤ x ∧ x < 4294967296 := fun x hx => by
  have := h x hx
  simp [Lit.wf, IntKind.min, IntKind.max, IntKind.signed, IntKind.bits] at this; omega
theorem wf_i64 {a : Int} (h : (Lit.int .i64 a).wf = true) : -9223372036854775808 ≤ a ∧ a ≤ 9223372036854775807 := by
  simp [Lit.wf, IntKind.min, IntKind.max, IntKind.signed, IntKind.bits] at h; omega

theorem sanity_f : sorobanlaw18_sanity.f = some true := rfl
theorem which_f {a : Int} (h : 0 ≤ a ∧ a ≤ 255) : sorobanlaw18_which.f a = some (1 + a % 3) := by unfold sorobanlaw18_which.f; rw [if_pos h]
theorem characters_f {a b : List Int} (h : a.length ≤ 1000000000) : sorobanlaw18_characters.f a b = some (decide (a = b)) := by unfold sorobanlaw18_characters.f; rw [if_pos h]
theorem fit_f {enc most : Int} {l : List Int} (h : ∀ x ∈ l, 0 ≤ x ∧ x < 4294967296) : chars_Fit.f enc l most = some (fitC enc l most) := by unfold chars_Fit.f; rw [if_pos (u32B_mk h)]
theorem encode_f {enc : Int} {l : List Int} (h : ∀ x ∈ l, 0 ≤ x ∧ x < 4294967296) : chars_Encode.f enc l = some (encodeC enc l) := by unfold chars_Encode.f; rw [if_pos (u32B_mk h)]
theorem decode_fm {enc : Int} {l : List Int} (h : ∀ x ∈ l, 0 ≤ x ∧ x ≤ 255) : chars_Decode.f enc l = some (decodeC enc l) := by unfold chars_Decode.f; rw [if_pos (bytB_mk h)]
theorem decode_f {enc : Int} {l : List Int} (h : Byt l) : chars_Decode.f enc l = some (decodeC enc l) := decode_fm (Byt.mem h)
theorem count_f {enc : Int} {l : List Int} (h : ∀ x ∈ l, 0 ≤ x ∧ x ≤ 255) : chars_Count.f enc l = some (((decodeC enc l).1.length : Int), (decodeC enc l).2.1, (decodeC enc l).2.2) := by unfold chars_Count.f; rw [if_pos (bytB_mk h)]
theorem next_f {enc st : Int} {l : List Int} (h : ∀ x ∈ l, 0 ≤ x ∧ x ≤ 255) : chars_Next.f enc st l = some (nextE enc st l) := by unfold chars_Next.f; rw [if_pos (bytB_mk h)]
theorem nextE_ok {enc st : Int} {b : List Int} (h : encOk enc) (hs : stOk enc st) (hn : b.length ≤ 20000) : nextE enc st b = ((nextC enc st b).kind, (nextC enc st b).ch, (nextC enc st b).bytes, (nextC enc st b).st, 0) := by
  unfold nextE; rw [if_pos ⟨h, hs⟩, if_pos hn]
theorem nextE_no {enc st : Int} {b : List Int} (h : ¬ (encOk enc ∧ stOk enc st)) : nextE enc st b = (0, 0, 0, 0, 1) := by unfold nextE; rw [if_neg h]
theorem stOk_of {enc st : Int} (h1 : stC enc st) (h2 : ¬ enc = 3 → st = 0) : stOk enc st := by
  unfold stOk statesC
  by_cases h : enc = 3
  · rw [if_pos h]; have := h1 h; omega
  · rw [if_neg h]; have := h2 h; omega
theorem stOk_to {enc st : Int} (h : stOk enc st) : stC enc st ∧ (¬ enc = 3 → st = 0) := by
  unfold stOk statesC at h
  refine ⟨fun h3 => ?_, fun h3 => ?_⟩
  · rw [if_pos h3] at h; omega
  · rw [if_neg h3] at h; omega

theorem fit_byt {enc most : Int} (he : encOk enc) {l : List Int} (hl : ∀ c ∈ l, 0 ≤ c) (hn : l.length ≤ 300) (h0 : 0 ≤ most) : Byt (fitC enc l most).1 := by
  have e1 : fitC enc l most = fitLoop enc most 0 [] [] 0 l := by
    unfold fitC
    rw [if_neg (by simpa using he), if_neg (by omega), if_neg (by omega)]
  rw [e1]
  have s1 := fit_spec (enc := enc) (most := most) l [] [] 0 rfl (by simpa [turnC] using h0)
  simp only [turnC, if_true, List.append_nil, List.length_nil, List.nil_append] at s1
  rcases s1 with s1 | ⟨a, t, lg, st, hlt, u1, u2, u3, u4⟩
  · rw [s1]; exact Byt.of (by simp)
  · rw [u2]
    simp only [List.nil_append] at u1
    have hla : a.length ≤ 300 := by rw [hlt] at hn; simp at hn; omega
    have hlen := encLoop_len (enc := enc) a 0 0
    rw [u1] at hlen
    have ht := turnC_len2 st 0
    have hE : encodeC enc a = (lg ++ turnC st 0, 0, 0) := by
      rw [encode_eq he (by omega)]
      unfold encodedC
      rw [u1]
      simp only
      rw [if_neg (by rw [List.length_append]; simp only at hlen; omega)]
    have := encode_byt (enc := enc) (l := a) (fun c hc => hl c (by rw [hlt]; simp [hc]))
    rw [hE] at this
    exact this
end Go.Proofs.Ytcekghcejmhhaaa
