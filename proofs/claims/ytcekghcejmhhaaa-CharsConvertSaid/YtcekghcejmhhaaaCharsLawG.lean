/- Plain laws of the layer 'chars', 7: two texts, one behind the other. No Go here. -/
import Derived.Test.YtcekghcejmhhaaaChK6
set_option linter.unusedSimpArgs false
set_option linter.unusedVariables false
set_option linter.unnecessarySimpa false
namespace Go.Proofs.Ytcekghcejmhhaaa

theorem decodeLoop_nil {enc st a : Int} {f : Nat} : decodeLoop enc f st a [] = ([], none) := decodeLoop_end (by unfold passedC; split <;> rfl)

/-- Rounds and the first offset do not matter. -/
theorem dec_shift {enc : Int} (d : Int) : ∀ (f g : Nat) (st a : Int) (b : List Int), b.length ≤ f → b.length ≤ g →
    decodeLoop enc g st (a + d) b = ((decodeLoop enc f st a b).1.map (fun x => (x.1 + d, x.2)), (decodeLoop enc f st a b).2.map (· + d))
  | 0, g, st, a, b, hf, hg => by
    obtain rfl : b = [] := List.length_eq_zero_iff.1 (by omega)
    rw [decodeLoop_nil, decodeLoop_nil]; rfl
  | f + 1, g, st, a, b, hf, hg => by
    by_cases hp : passedC enc b = true
    · rw [decodeLoop_end hp, decodeLoop_end hp]; rfl
    · have hne : b ≠ [] := fun h => hp (by subst h; unfold passedC; split <;> rfl)
      have hlen : 0 < b.length := by cases b with | nil => exact absurd rfl hne | cons _ _ => simp
      obtain ⟨g, rfl⟩ : ∃ g', g = g' + 1 := ⟨g - 1, by omega⟩
      rw [decodeLoop_unfold, decodeLoop_unfold, if_neg hp, if_neg hp]
      by_cases hk : (nextC enc st b).kind = 1
      · rw [if_pos hk, if_pos hk]
        obtain ⟨_, h0, hle⟩ : (nextC enc st b).kind = 1 ∧ 0 < (nextC enc st b).bytes ∧ (nextC enc st b).bytes ≤ b.length := by
          rcases next_kind enc st b with h | h | h
          · exact h
          · rw [h] at hk; simp [Step.bad] at hk
          · rw [h] at hk; simp [Step.part] at hk
        have ih := dec_shift (enc := enc) d f g (nextC enc st b).st (a + (nextC enc st b).bytes) (b.drop (nextC enc st b).bytes.toNat) (by rw [List.length_drop]; omega) (by rw [List.length_drop]; omega)
        rw [show a + d + (nextC enc st b).bytes = a + (nextC enc st b).bytes + d by omega, ih]
        rfl
      · rw [if_neg hk, if_neg hk]; rfl

/-- A shift ahead. -/
def Step.bump (S : Step) : Step := if S.kind = 1 then { S with bytes := S.bytes + 1 } else S
theorem nextS_bump : ∀ (b : List Int) (n s : Int), nextS (n + 1) s b = (nextS n s b).bump
  | [], n, s => rfl
  | x :: t, n, s => by
    by_cases h1 : x = 14
    · subst h1; rw [nextS_o, nextS_o]; exact nextS_bump t _ _
    · by_cases h2 : x = 15
      · subst h2; rw [nextS_i, nextS_i]; exact nextS_bump t _ _
      · rw [nextS_c h1 h2, nextS_c h1 h2]
        split
        · split
          · rfl
          · rfl
        · split
          · rfl
          · cases t with
            | nil => rfl
            | cons y t' =>
              dsimp only
              split
              · rfl
              · simp only [Step.bump, if_true]; congr 1; omega
theorem next3_shift {st : Int} {b : List Int} : nextC 3 st (15 :: b) = (nextC 3 0 b).bump := by
  unfold nextC
  rw [if_neg (by decide), if_neg (by decide), if_neg (by decide), if_neg (by decide), nextS_i]
  exact nextS_bump b 0 0

theorem decodeC_of {enc : Int} (he : encOk enc) {b : List Int} (hn : b.length ≤ 20000) : decodeC enc b =
    (match (decodeLoop enc b.length 0 0 b).2 with | none => ((decodeLoop enc b.length 0 0 b).1.map (·.2), 0, 0) | some a => ([], 15, a)) := by
  unfold decodeC
  rw [if_neg (by simpa using he), if_neg (by omega)]
  all_goals rfl

theorem counts_law {enc : Int} (he : encOk enc) {l b p : List Int} {a0 : Int} (hl : ∀ c ∈ l, 0 ≤ c) (hn : l.length ≤ 300) (hb : b.length ≤ 1000) (hE : encodeC enc l = (p, 0, a0)) :
    ((decodeC enc b).2.1 = 0 → decodeC enc (p ++ b) = (l ++ (decodeC enc b).1, 0, 0)) ∧
    ((decodeC enc b).2.1 ≠ 0 → ∃ at1, decodeC enc (p ++ b) = ([], 15, at1) ∧ (decodeC enc b).2.1 = 15 ∧ (at1 = p.length + (decodeC enc b).2.2 ∨ enc = 3 ∧ (decodeC enc b).2.2 = 0 ∧ at1 = p.length - 1)) := by
  rw [encode_eq he (by omega)] at hE
  unfold encodedC at hE
  obtain ⟨bs, st', o, hR⟩ : ∃ bs st' o, encLoop enc 0 0 l = (bs, st', o) := ⟨_, _, _, rfl⟩
  rw [hR] at hE
  cases o with
  | some i => simp at hE
  | none =>
    simp only at hE
    split at hE
    · simp at hE
    · rename_i hsz
      simp only [Prod.mk.injEq] at hE
      obtain ⟨hp, _, _⟩ := hE
      have hlen := encLoop_len (enc := enc) l 0 0
      rw [hR] at hlen
      dsimp only at hlen
      have htl := turnC_len2 st' 0
      have hpl : p.length = bs.length + (turnC st' 0).length := by rw [← hp, List.length_append]
      have hcat : p ++ b = bs ++ (turnC st' 0 ++ b) := by rw [← hp, List.append_assoc]
      obtain ⟨q1, q2, q3, g, os, q4, q5, q6⟩ := dec_enc he l 0 0 0 bs st' (turnC st' 0 ++ b) (p ++ b).length hl (fun _ => .inl rfl) (fun _ => rfl) hR (Nat.le_of_eq (by rw [hcat]))
      rw [← hcat] at q6
      have hD := decodeC_of he (b := p ++ b) (by rw [List.length_append]; omega)
      rw [q6] at hD
      have hB := decodeC_of he (b := b) (by omega)
      by_cases hst : st' = 0
      · subst hst
        have ht0 : turnC 0 0 = [] := rfl
        rw [ht0] at q4 hpl hD
        rw [List.nil_append] at q4 hD
        have hs := dec_shift (enc := enc) (bs.length : Int) b.length g 0 0 b (Nat.le_refl _) q4
        rw [hs] at hD
        obtain ⟨os2, o2, hR2⟩ : ∃ os2 o2, decodeLoop enc b.length 0 0 b = (os2, o2) := ⟨_, _, rfl⟩
        rw [hR2] at hD hB
        cases o2 with
        | none =>
          simp only [Option.map_none] at hD hB
          rw [hB]
          refine ⟨fun _ => ?_, fun h => by simp at h⟩
          rw [hD]
          simp [List.map_append, q5, List.map_map, Function.comp_def]
        | some e =>
          simp only [Option.map_some] at hD hB
          rw [hB]
          refine ⟨fun h => by simp at h, fun _ => ⟨_, hD, rfl, .inl ?_⟩⟩
          simp only [List.length_nil] at hpl
          try dsimp only
          omega
      · have h3 : enc = 3 := by
          rcases Classical.em (enc = 3) with h | h
          · exact h
          · exact absurd (q2 h) hst
        subst h3
        have hs1 : st' = 1 := by have := q1 rfl; omega
        subst hs1
        have ht1 : turnC 1 0 = [15] := rfl
        rw [ht1] at q4 hpl hD
        simp only [List.cons_append, List.nil_append, List.length_cons, List.length_nil] at q4 hpl hD
        by_cases hps : passedC 3 b = true
        · have hps2 : passedC 3 (15 :: b) = true := by
            unfold passedC at hps ⊢
            rw [if_pos rfl] at hps ⊢
            simpa using hps
          rw [decodeLoop_end hps2] at hD
          rw [decodeLoop_end hps] at hB
          simp only at hD hB
          rw [hB]
          refine ⟨fun _ => ?_, fun h => by simp at h⟩
          rw [hD]; simp [q5]
        · have hps2 : ¬ passedC 3 (15 :: b) = true := by
            unfold passedC at hps ⊢
            rw [if_pos rfl] at hps ⊢
            simpa using hps
          have hne : b ≠ [] := fun h => hps (by subst h; rfl)
          have hblen : 0 < b.length := by cases b with | nil => exact absurd rfl hne | cons _ _ => simp
          obtain ⟨g, rfl⟩ : ∃ g', g = g' + 1 := ⟨g - 1, by omega⟩
          obtain ⟨f, hf⟩ : ∃ f, b.length = f + 1 := ⟨b.length - 1, by omega⟩
          rw [decodeLoop_unfold, if_neg hps2, next3_shift] at hD
          rw [hf, decodeLoop_unfold, if_neg hps] at hB
          by_cases hk : (nextC 3 0 b).kind = 1
          · have hbk : (nextC 3 0 b).bump.kind = 1 := by unfold Step.bump; rw [if_pos hk]; exact hk
            have hb1 : (nextC 3 0 b).bump.bytes = (nextC 3 0 b).bytes + 1 := by unfold Step.bump; rw [if_pos hk]
            have hb2 : (nextC 3 0 b).bump.st = (nextC 3 0 b).st := by unfold Step.bump; rw [if_pos hk]
            have hb3 : (nextC 3 0 b).bump.ch = (nextC 3 0 b).ch := by unfold Step.bump; rw [if_pos hk]
            obtain ⟨_, h0, hle⟩ : (nextC 3 0 b).kind = 1 ∧ 0 < (nextC 3 0 b).bytes ∧ (nextC 3 0 b).bytes ≤ b.length := by
              rcases next_kind 3 0 b with h | h | h
              · exact h
              · rw [h] at hk; simp [Step.bad] at hk
              · rw [h] at hk; simp [Step.part] at hk
            rw [if_pos hbk, hb1, hb2, hb3] at hD
            rw [if_pos hk] at hB
            have hdr : (15 :: b).drop ((nextC 3 0 b).bytes + 1).toNat = b.drop (nextC 3 0 b).bytes.toNat := by
              rw [show ((nextC 3 0 b).bytes + 1).toNat = (nextC 3 0 b).bytes.toNat + 1 by omega, List.drop_succ_cons]
            rw [hdr] at hD
            have hs := dec_shift (enc := 3) ((bs.length : Int) + 1) f g (nextC 3 0 b).st (0 + (nextC 3 0 b).bytes) (b.drop (nextC 3 0 b).bytes.toNat) (by rw [List.length_drop]; omega) (by rw [List.length_drop]; omega)
            rw [show (0 : Int) + (bs.length : Int) + ((nextC 3 0 b).bytes + 1) = 0 + (nextC 3 0 b).bytes + ((bs.length : Int) + 1) by omega, hs] at hD
            obtain ⟨os2, o2, hR2⟩ : ∃ os2 o2, decodeLoop 3 f (nextC 3 0 b).st (0 + (nextC 3 0 b).bytes) (b.drop (nextC 3 0 b).bytes.toNat) = (os2, o2) := ⟨_, _, rfl⟩
            rw [hR2] at hD hB
            cases o2 with
            | none =>
              simp only [Option.map_none] at hD hB
              rw [hB]
              refine ⟨fun _ => ?_, fun h => by simp at h⟩
              rw [hD]
              simp [List.map_append, q5, List.map_map, Function.comp_def]
            | some e =>
              simp only [Option.map_some] at hD hB
              rw [hB]
              refine ⟨fun h => by simp at h, fun _ => ⟨_, hD, rfl, .inl ?_⟩⟩
              try dsimp only
              omega
          · have hbk : ¬ (nextC 3 0 b).bump.kind = 1 := by unfold Step.bump; rw [if_neg hk]; exact hk
            rw [if_neg hbk] at hD
            rw [if_neg hk] at hB
            simp only at hD hB
            rw [hB]
            refine ⟨fun h => by simp at h, fun _ => ⟨_, hD, rfl, .inr ⟨rfl, rfl, ?_⟩⟩⟩
            try dsimp only
            omega
end Go.Proofs.Ytcekghcejmhhaaa
