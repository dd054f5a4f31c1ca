/- The specification's Decode, as the printer tells it, and the program's: they say the same of all bytes. -/
import Derived.Test.YtcekghcejmhhaaaCharsExtM
import Derived.Test.YtcekghcejmhhaaaXCharsDecodex1
import Derived.Test.YtcekghcejmhhaaaCharsLawG
set_option linter.unusedSimpArgs false
set_option linter.unusedVariables false
set_option linter.unnecessarySimpa false
namespace Go.Proofs.Ytcekghcejmhhaaa.Ref
open Go.RowKit Go.Proofs.Ytcekghcejmhhaaa.XCharsDecode Go.Proofs.YtcekghcejmhhaaaW.PrintWords Go.Proofs.YtcekghcejmhhaaaW.PrintLast Go.Proofs.YtcekghcejmhhaaaW.PrintMore Go.Proofs.Ytcekghcejmhhaaa

theorem passed_skip {b : List Int} : passedC 3 b = true ↔ skipS b = b.length := by
  induction b with
  | nil => simp [skipS, passedC]
  | cons x t ih =>
    have hle := skipS_le t
    have e : passedC 3 (x :: t) = true ↔ (x = 14 ∨ x = 15) ∧ passedC 3 t = true := by
      unfold passedC
      rw [if_pos rfl, if_pos rfl]
      simp
    rw [e, ih, skipS_c]
    by_cases h : x = 14 ∨ x = 15
    · rw [if_pos h]; simp [h]
    · rw [if_neg h]; simp [h]

/-- What the specification's Decode returns. -/
def readR (L F : List Int) (r : List (Int × Int) × Option Int) : List Int × List Int × Int :=
  match r.2 with
  | none => (L ++ r.1.map (·.2), F ++ r.1.map (·.1), -1)
  | some a => ([], [], a)

set_option maxHeartbeats 1000000 in
theorem decode_l0 {enc : Int} (he : encOk enc) {l : List Int} (hb : ∀ x ∈ l, 0 ≤ x ∧ x ≤ 255) (hn : l.length ≤ 20000) : ∀ (f : Nat) (t pre L F : List Int) (st : Int) (k : Nat), l = pre ++ t → t.length ≤ f → t.length + l.length + 10 ≤ k → L.length ≤ pre.length → F.length ≤ pre.length → stC enc st → (¬ enc = 3 → st = 0) →
    ∃ s, sorobanref18_Decode.l0 k enc l (pre.length : Int) L F (-1) st = some ((readR L F (decodeLoop enc f st (pre.length : Int) t)).1, (readR L F (decodeLoop enc f st (pre.length : Int) t)).2.1, (readR L F (decodeLoop enc f st (pre.length : Int) t)).2.2, s) := by
  intro f
  induction f with
  | zero =>
    intro t pre L F st k h hf hk _ _ _ _
    obtain rfl : t = [] := List.length_eq_zero_iff.1 (by omega)
    obtain ⟨k, rfl⟩ : ∃ k', k = k' + 1 := ⟨k - 1, by omega⟩
    rw [sorobanref18_Decode.l0, if_neg (by rw [h]; simp), decodeLoop_nil]
    exact ⟨st, by simp [readR]⟩
  | succ f ih =>
    intro t pre L F st k h hf hk hL hF h1 h2
    obtain ⟨k, rfl⟩ : ∃ k', k = k' + 1 := ⟨k - 1, by omega⟩
    have hlen : l.length = pre.length + t.length := by rw [h, List.length_append]
    have ht : ∀ x ∈ t, 0 ≤ x ∧ x ≤ 255 := fun x hx => hb x (by rw [h]; simp [hx])
    have hs01 : st = 0 ∨ st = 1 := by
      by_cases h3 : enc = 3
      · exact h1 h3
      · exact .inl (h2 h3)
    by_cases hnil : t = []
    · subst hnil
      rw [sorobanref18_Decode.l0, if_neg (by simp only [List.length_nil] at hlen; omega), decodeLoop_nil]
      exact ⟨st, by simp [readR]⟩
    · have htl : 0 < t.length := by cases t with | nil => exact absurd rfl hnil | cons _ _ => simp
      have hdrop : l.drop (pre.length : Int).toNat = t := by rw [Int.toNat_natCast, h, List.drop_left']; rfl
      rw [sorobanref18_Decode.l0, if_pos (by omega), if_pos (by omega), if_pos (by omega), hdrop]
      have hsh : ∃ (n : Nat) (s' : Int), sorobanref18_shifts.f enc st t = some ((n : Int), s') ∧ (passedC enc t = true ↔ n = t.length) ∧ n ≤ t.length := by
        by_cases h3 : enc = 3
        · subst h3
          exact ⟨_, _, shifts_3 (k := t.length + 1) (by omega) (by omega), passed_skip, skipS_le t⟩
        · refine ⟨0, st, shifts_not (k := t.length + 1) h3 (by omega), ?_, by omega⟩
          unfold passedC
          rw [if_neg h3]
          simp [hnil]
          omega
      obtain ⟨n, s', hsf, hpn, hnl⟩ := hsh
      have hw : wrap64 ((pre.length : Int) + (n : Int)) = ((pre.length + n : Nat) : Int) := by unfold wrap64; omega
      rw [hsf, Option.bind_some]
      dsimp only
      rw [hw, decodeLoop_unfold]
      by_cases hp : passedC enc t = true
      · rw [if_pos hp, if_pos (by have := hpn.1 hp; omega)]
        exact ⟨st, by simp [readR]⟩
      · rw [if_neg hp, if_neg (fun hc => hp (hpn.2 (by omega))), next_x he hs01 ht (by omega), Option.bind_some]
        unfold T
        dsimp only
        by_cases hk1 : (nextC enc st t).kind = 1
        · obtain ⟨_, q0, qle⟩ : (nextC enc st t).kind = 1 ∧ 0 < (nextC enc st t).bytes ∧ (nextC enc st t).bytes ≤ t.length := by
            rcases next_kind enc st t with h | h | h
            · exact h
            · rw [h] at hk1; simp [Step.bad] at hk1
            · rw [h] at hk1; simp [Step.part] at hk1
          have hnx := next_st he h1 ht hk1
          have hpl : (pre ++ t.take (nextC enc st t).bytes.toNat).length = pre.length + (nextC enc st t).bytes.toNat := by rw [List.length_append, List.length_take]; omega
          have hw1 : wrap64 ((pre.length : Int) + (nextC enc st t).bytes) = ((pre ++ t.take (nextC enc st t).bytes.toNat).length : Int) := by rw [hpl]; unfold wrap64; omega
          have e2 : ((pre ++ t.take (nextC enc st t).bytes.toNat).length : Int) = (pre.length : Int) + (nextC enc st t).bytes := by rw [hpl]; omega
          obtain ⟨s, hs⟩ := ih (t.drop (nextC enc st t).bytes.toNat) (pre ++ t.take (nextC enc st t).bytes.toNat) (L ++ [(nextC enc st t).ch]) (F ++ [(pre.length : Int)]) (nextC enc st t).st k (by rw [List.append_assoc, List.take_append_drop]; exact h) (by rw [List.length_drop]; omega) (by rw [List.length_drop]; omega) (by rw [hpl, List.length_append, List.length_singleton]; omega) (by rw [hpl, List.length_append, List.length_singleton]; omega) hnx.1 hnx.2
          refine ⟨s, ?_⟩
          rw [if_pos hk1, if_pos hk1, if_pos (by omega), if_pos (by omega), hw1, hs, e2]
          unfold readR
          dsimp only
          cases (decodeLoop enc f (nextC enc st t).st ((pre.length : Int) + (nextC enc st t).bytes) (t.drop (nextC enc st t).bytes.toNat)).2 with
          | none => simp
          | some a => rfl
        · rw [if_neg hk1, if_neg hk1]
          exact ⟨st, rfl⟩
/-- The specification's Decode says what the program's says. -/
theorem decode_ref {enc : Int} (he : encOk enc) {l : List Int} (hb : ∀ x ∈ l, 0 ≤ x ∧ x ≤ 255) (hn : l.length ≤ 20000) {k : Nat} (hk : 2 * l.length + 10 ≤ k) :
    ∃ s, sorobanref18_Decode.f k enc l = some ((readR [] [] (decodeLoop enc l.length 0 0 l)).1, (readR [] [] (decodeLoop enc l.length 0 0 l)).2.1, (readR [] [] (decodeLoop enc l.length 0 0 l)).2.2, s) := by
  have := decode_l0 he hb hn l.length l [] [] [] 0 k rfl (Nat.le_refl _) (by omega) (Nat.le_refl _) (Nat.le_refl _) (fun _ => .inl rfl) (fun _ => rfl)
  exact this
end Go.Proofs.Ytcekghcejmhhaaa.Ref
