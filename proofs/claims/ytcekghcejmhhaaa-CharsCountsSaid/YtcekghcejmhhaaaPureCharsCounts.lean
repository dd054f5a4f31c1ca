/- What the law CharsCounts asks of numbers and lists alone: two texts, one behind the other, are read as the characters of both. -/
import Derived.Test.YtcekghcejmhhaaaXCharsCountsx
import Derived.Test.YtcekghcejmhhaaaCharsLawF
import Derived.Test.YtcekghcejmhhaaaCharsLawG
set_option linter.unusedSimpArgs false
set_option linter.unusedVariables false
set_option linter.unnecessarySimpa false
namespace Go.Proofs.Ytcekghcejmhhaaa.Pure
open Go.RowKit Go.Proofs.Ytcekghcejmhhaaa.XCharsCounts Go.Proofs.YtcekghcejmhhaaaW.PrintWords Go.Proofs.YtcekghcejmhhaaaW.PrintLast Go.Proofs.Ytcekghcejmhhaaa

set_option maxHeartbeats 1000000 in
theorem CharsCounts : sorobanlaw18_CharsCounts.Pure := by
  intro a0 l1 l2 h0 hm1 _ hl1 hm2 _ hl2
  clear hm1 hm2
  refine ⟨5, ?_⟩
  have hu := wf_u32 hl1
  have hb := wf_u8s hl2
  have hx := wf_u8 h0
  unfold sorobanlaw18_CharsCounts.f
  by_cases c1 : (l1.length : Int) > 300
  · rw [if_pos c1, sorobanlaw18_CharsCounts.j0, if_pos (show true = true from rfl)]; rfl
  · rw [if_neg c1]
    by_cases c2 : (l2.length : Int) > 1000
    · rw [sorobanlaw18_CharsCounts.j0, if_pos (by simpa using c2)]; rfl
    · have hen : encOk (1 + a0 % 3) := by unfold encOk; omega
      rw [sorobanlaw18_CharsCounts.j0, if_neg (by simpa using c2), which_f hx, Option.bind_some]
      generalize 1 + a0 % 3 = enc at hen
      obtain ⟨p, e, a, hE⟩ : ∃ p e a, encodeC enc l1 = (p, e, a) := ⟨_, _, _, rfl⟩
      rw [encode_f hu, hE, Option.bind_some, decode_fm hb, Option.bind_some, count_f hb, Option.bind_some]
      dsimp only
      rw [if_pos (show (decodeC enc l2).2.1 = (decodeC enc l2).2.1 from rfl), if_pos (show ((decodeC enc l2).1.length : Int) = (decodeC enc l2).1.length from rfl)]
      by_cases e0 : e = 0
      · subst e0
        rw [sorobanlaw18_CharsCounts.j1, if_neg (by decide)]
        obtain ⟨hA, hB⟩ := counts_law hen (fun c hc => (hu c hc).1) (by omega) (by omega) hE (b := l2)
        have hpb : Byt p := by have := encode_byt (enc := enc) (l := l1) (fun c hc => (hu c hc).1); rw [hE] at this; exact this
        have hpl : p.length ≤ 1300 := by
          have h1 := encLoop_len (enc := enc) l1 0 0
          rw [encode_eq hen (by omega)] at hE
          unfold encodedC at hE
          obtain ⟨bs, st', o, hR⟩ : ∃ bs st' o, encLoop enc 0 0 l1 = (bs, st', o) := ⟨_, _, _, rfl⟩
          rw [hR] at hE h1
          have ht := turnC_len2 st' 0
          cases o with
          | some i => simp at hE
          | none =>
            simp only at hE h1
            split at hE
            · simp at hE
            · rw [← (Prod.mk.inj hE).1, List.length_append]; omega
        have hcat : ∀ x ∈ p ++ l2, 0 ≤ x ∧ x ≤ 255 := fun x hx => by
          rcases List.mem_append.1 hx with h | h
          · exact Byt.mem hpb x h
          · exact hb x h
        have hml := decode_u32 hen hb
        simp only [Option.bind_some, List.nil_append, List.length_nil]
        rw [if_pos (by omega), if_pos (by omega), decode_fm hcat, Option.bind_some]
        by_cases d0 : (decodeC enc l2).2.1 = 0
        · have hD := hA d0
          have hml2 : (l1 ++ (decodeC enc l2).1).length ≤ 4000 := by
            have h2 : (decodeC enc (p ++ l2)).1.length = (l1 ++ (decodeC enc l2).1).length := by rw [hD]
            have h3 : ∀ (f : Nat) (st a : Int) (b : List Int), (decodeLoop enc f st a b).1.length ≤ f := by
              intro f
              induction f with
              | zero => intro st a b; simp [decodeLoop]
              | succ f ih =>
                intro st a b
                rw [decodeLoop_unfold]
                split
                · simp
                · split
                  · have := ih (nextC enc st b).st (a + (nextC enc st b).bytes) (b.drop (nextC enc st b).bytes.toNat)
                    simp only [List.length_cons]; omega
                  · simp
            have h4 := h3 (p ++ l2).length 0 0 (p ++ l2)
            rw [decodeC_of hen (by rw [List.length_append]; omega)] at h2
            have h5 : (p ++ l2).length = p.length + l2.length := List.length_append
            split at h2
            · simp only [List.length_map] at h2; omega
            · simp only [List.length_nil] at h2; omega
          have hl1l : l1.length ≤ 300 := by omega
          rw [List.length_append] at hml2
          rw [if_pos d0, sanity_f, Option.bind_some, if_pos (show true = true from rfl), hD]
          dsimp only
          rw [if_pos (show (0 : Int) = 0 from rfl), if_pos (by omega), if_pos (by omega), characters_f (by rw [List.length_append]; omega), Option.bind_some]
          simp
        · obtain ⟨at1, hD, hf, hto⟩ := hB d0
          have hat : 0 ≤ (decodeC enc l2).2.2 ∧ (decodeC enc l2).2.2 ≤ 1000 := by
            obtain ⟨m, q1, q2, _⟩ := err_law hen hb (by omega) d0
            rw [q1]; dsimp only; omega
          have w1 : wrap64 ((p.length : Int) + (decodeC enc l2).2.2) = p.length + (decodeC enc l2).2.2 := by unfold wrap64; omega
          have w2 : wrap64 ((p.length : Int) - 1) = p.length - 1 := by unfold wrap64; omega
          rw [if_neg d0, hD, w1, w2]
          dsimp only
          simp only [sanity_f, Option.bind_some, if_true]
          rw [hf]
          simp only [if_true]
          rcases hto with h | ⟨h3, h4, h5⟩
          · rw [h]; simp
          · subst h3; rw [h4, h5]; simp
      · rw [sorobanlaw18_CharsCounts.j1, if_pos (by simpa using e0)]
        simp [sanity_f]
end Go.Proofs.Ytcekghcejmhhaaa.Pure
