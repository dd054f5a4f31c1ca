/- What the law CharsFit asks of numbers and lists alone: what fits has room, is read as the first characters, and the next one would not fit. -/
import Derived.Test.YtcekghcejmhhaaaXCharsFitx
import Derived.Test.YtcekghcejmhhaaaCharsLawF
set_option linter.unusedSimpArgs false
set_option linter.unusedVariables false
set_option linter.unnecessarySimpa false
namespace Go.Proofs.Ytcekghcejmhhaaa.Pure
open Go.RowKit Go.Proofs.Ytcekghcejmhhaaa.XCharsFit Go.Proofs.YtcekghcejmhhaaaW.PrintWords Go.Proofs.YtcekghcejmhhaaaW.PrintLast Go.Proofs.Ytcekghcejmhhaaa

set_option maxHeartbeats 2000000 in
theorem CharsFit : sorobanlaw18_CharsFit.Pure := by
  intro a0 l1 a2 a3 h0 hm _ hl h2 h3
  clear hm h2 h3
  refine ⟨4, ?_⟩
  have hu : ∀ x ∈ l1, 0 ≤ x ∧ x < 4294967296 := wf_u32 hl
  have hx := wf_u8 h0
  unfold sorobanlaw18_CharsFit.f
  by_cases c1 : (l1.length : Int) > 300
  · rw [if_pos c1, sorobanlaw18_CharsFit.j0, if_pos (show true = true from rfl)]; rfl
  · rw [if_neg c1]
    by_cases c2 : a2 < 0
    · rw [if_pos c2, sorobanlaw18_CharsFit.j0, if_pos (show true = true from rfl)]; rfl
    · rw [if_neg c2]
      by_cases c3 : a3 < a2
      · rw [sorobanlaw18_CharsFit.j0, if_pos (by simpa using c3)]; rfl
      · have hen : encOk (1 + a0 % 3) := by unfold encOk; omega
        rw [sorobanlaw18_CharsFit.j0, if_neg (by simpa using c3), which_f hx]
        generalize 1 + a0 % 3 = enc at hen
        obtain ⟨hA, hB⟩ := fit_law hen (fun c hc => (hu c hc).1) (l := l1) (by omega) (by omega : (0 : Int) ≤ a2) (by omega : a2 ≤ a3)
        have hb1 := fit_byt hen (fun c hc => (hu c hc).1) (l := l1) (by omega) (by omega : (0 : Int) ≤ a2)
        simp only [Option.bind_some, fit_f hu]
        generalize fitC enc l1 a2 = F at hA hB hb1
        generalize fitC enc l1 a3 = G at hA hB
        obtain ⟨b, k, e⟩ := F
        obtain ⟨b2, k2, e2⟩ := G
        dsimp only at hA hB hb1 ⊢
        by_cases e0 : e = 0
        · subst e0
          rw [if_pos (show (0 : Int) = 0 from rfl)]
          by_cases e1 : e2 = 0
          · subst e1
            obtain ⟨a, t, b', hlt, hE, hbm, hb2m, hk2, hdec, hfull, hnext⟩ := hB rfl rfl
            obtain ⟨rfl, rfl, -⟩ : b = b' ∧ k = (a.length : Int) ∧ (0 : Int) = 0 := by simpa using hE
            have htk : l1.take a.length = a := by rw [hlt, List.take_left']; rfl
            have hla : l1.length = a.length + t.length := by rw [hlt, List.length_append]
            rw [sorobanlaw18_CharsFit.j1, if_neg (by decide), decode_f hb1]
            simp only [Option.bind_some, hdec, if_true]
            rw [if_neg (by omega), if_neg (by omega), if_neg (by omega), if_pos (by omega), if_pos (by omega), Int.toNat_natCast, htk, characters_f (by omega)]
            simp only [Option.bind_some, decide_true, Bool.not_true]
            rw [sorobanlaw18_CharsFit.j2, if_neg (by decide)]
            cases t with
            | nil =>
              rw [if_neg (by simp only [List.length_nil] at hla; omega), encode_f hu, hfull rfl]
              simp [sanity_f]
            | cons c t' =>
              obtain ⟨x, hx1, hx2⟩ := hnext c t' rfl
              simp only [List.length_cons] at hla
              have htk2 : l1.take ((a.length : Int) + 1).toNat = a ++ [c] := by
                have e1 : ((a.length : Int) + 1).toNat = a.length + 1 := rfl
                rw [e1, hlt]
                simp [List.take_append, List.take_of_length_le (Nat.le_succ a.length)]
              have p1 : (a.length : Int) < (l1.length : Int) := by omega
              have p2 : (0 : Int) ≤ (a.length : Int) + 1 := by omega
              have p3 : (a.length : Int) + 1 ≤ (l1.length : Int) := by omega
              have hw : wrap64 ((a.length : Int) + 1) = (a.length : Int) + 1 := by unfold wrap64; omega
              rw [if_pos p1, hw, if_pos p2, if_pos p3, htk2, encode_f (fun x hx => hu x (by rw [hlt]; simp at hx ⊢; rcases hx with h | h <;> simp [h])), hx1]
              simp only [Option.bind_some, sanity_f, if_true]
              simpa using hx2
          · have hne : (e2 != 0) = true := by simpa using e1
            rw [hne, sorobanlaw18_CharsFit.j1, if_pos (show true = true from rfl)]
            simp [sanity_f]
        · obtain ⟨rfl, rfl⟩ : e = 15 ∧ e2 = 15 := by rcases hA with h | h; exact absurd h e0; exact h
          rw [if_neg (by decide), sorobanlaw18_CharsFit.j1, if_pos (show true = true from rfl)]
          simp [sanity_f]
end Go.Proofs.Ytcekghcejmhhaaa.Pure
