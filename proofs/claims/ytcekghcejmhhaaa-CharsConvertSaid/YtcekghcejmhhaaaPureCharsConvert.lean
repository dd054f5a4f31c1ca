/- What the law CharsConvert asks of numbers and lists alone: Convert returns what the specification returns. -/
import Derived.Test.YtcekghcejmhhaaaXCharsConvertx
import Derived.Test.YtcekghcejmhhaaaCharsExtA
import Derived.Test.YtcekghcejmhhaaaConvLaw
set_option linter.unusedSimpArgs false
set_option linter.unusedVariables false
set_option linter.unnecessarySimpa false
namespace Go.Proofs.Ytcekghcejmhhaaa.Pure
open Go.RowKit Go.Proofs.Ytcekghcejmhhaaa.XCharsConvert Go.Proofs.YtcekghcejmhhaaaW.PrintWords Go.Proofs.YtcekghcejmhhaaaW.PrintLast Go.Proofs.Ytcekghcejmhhaaa

theorem w0 : wrap64 0 = 0 := by unfold wrap64; omega
theorem dec_len : ∀ (enc : Int) (f : Nat) (st a : Int) (b : List Int), (decodeLoop enc f st a b).1.length ≤ f := by
  intro enc f
  induction f with
  | zero => intro st a b; simp [decodeLoop]
  | succ f ih =>
    intro st a b
    rw [decodeLoop_unfold]
    split
    · simp
    · split
      · have := ih (nextC enc st b).st (a + (nextC enc st b).bytes) (b.drop (nextC enc st b).bytes.toNat)
        simp only [List.length_cons]; omega
      · simp
theorem at_pos : ∀ (enc : Int) (f : Nat) (st a : Int) (b : List Int), 0 ≤ a → ∀ e, (decodeLoop enc f st a b).2 = some e → 0 ≤ e := by
  intro enc f
  induction f with
  | zero => intro st a b _ e h; simp [decodeLoop] at h
  | succ f ih =>
    intro st a b ha e h
    rw [decodeLoop_unfold] at h
    split at h
    · simp at h
    · split at h
      · rename_i hk
        have : 0 < (nextC enc st b).bytes := by
          rcases next_kind enc st b with h | h | h
          · exact h.2.1
          · rw [h] at hk; simp [Step.bad] at hk
          · rw [h] at hk; simp [Step.part] at hk
        exact ih _ _ _ (by omega) e h
      · simp at h; omega

theorem st01 {enc st : Int} (h1 : stC enc st) (h2 : ¬ enc = 3 → st = 0) : st = 0 ∨ st = 1 := by
  by_cases h : enc = 3
  · exact h1 h
  · exact .inl (h2 h)
theorem put_st01 {enc st c : Int} (he : encOk enc) : stC enc (putC enc st c).2 ∧ (¬ enc = 3 → (putC enc st c).2 = 0) := by
  refine ⟨fun h3 => ?_, fun h3 => put_st he h3⟩
  subst h3
  unfold putC
  rw [if_neg (by decide), if_neg (by decide)]
  split
  · exact .inl rfl
  · exact .inr rfl
theorem hla (x y : List Int) : (x ++ y).length = x.length + y.length := List.length_append
theorem rd_app {pre t : List Int} {c : Int} : rd (pre ++ c :: t) (pre.length : Int) = c := by simp [rd]

theorem encode_l0 {enc : Int} (he : encOk enc) {l : List Int} (hn : l.length ≤ 20000) (hl : ∀ c ∈ l, 0 ≤ c) : ∀ (t pre lg : List Int) (st : Int) (k : Nat) (a : Int), l = pre ++ t → lg.length ≤ 4 * pre.length → stC enc st → (¬ enc = 3 → st = 0) → t.length + 4 ≤ k →
    sorobanref18_Encode.l0 k enc l st (pre.length : Int) lg a = some (match (encLoop enc st (pre.length : Int) t).2.2 with | none => (lg ++ (encLoop enc st (pre.length : Int) t).1 ++ turnC (encLoop enc st (pre.length : Int) t).2.1 0, a) | some i => ([], i))
  | [], pre, lg, st, k, a, h, hlg, h1, h2, hk => by
    obtain ⟨k, rfl⟩ : ∃ k', k = k' + 1 := ⟨k - 1, by omega⟩
    have htl := turnC_len2 st 0
    have hp : pre.length ≤ 20000 := by rw [h, List.append_nil] at hn; exact hn
    rw [sorobanref18_Encode.l0, if_neg (by rw [h]; simp), reset_x (st01 h1 h2), Option.bind_some, if_pos (by omega)]
    simp [encLoop]
  | c :: t, pre, lg, st, k, a, h, hlg, h1, h2, hk => by
    obtain ⟨k, rfl⟩ : ∃ k', k = k' + 1 := ⟨k - 1, by omega⟩
    have hlen : l.length = pre.length + (t.length + 1) := by rw [h]; simp
    have h0 : 0 ≤ c := hl c (by rw [h]; simp)
    have hrd : rd l (pre.length : Int) = c := by rw [h]; exact rd_app
    simp only [List.length_cons] at hk
    rw [sorobanref18_Encode.l0, if_pos (by omega), if_pos (by omega), hrd, has_x he, Option.bind_some]
    by_cases hc : hasC enc c = true
    · have hp4 := putC_len enc st c
      have hst := put_st01 (st := st) (c := c) he
      rw [if_pos hc, put_x he (st01 h1 h2) h0 hc, Option.bind_some, if_pos (by omega), encLoop_cons hc]
      have hw1 : wrap64 ((pre.length : Int) + 1) = ((pre ++ [c]).length : Int) := by rw [List.length_append, List.length_singleton]; unfold wrap64; omega
      have e : ((pre ++ [c]).length : Int) = (pre.length : Int) + 1 := by rw [List.length_append, List.length_singleton]; rfl
      have ih := encode_l0 he hn hl t (pre ++ [c]) (lg ++ (putC enc st c).1) (putC enc st c).2 k a (by rw [h]; simp) (by rw [List.length_append, List.length_append, List.length_singleton]; omega) hst.1 hst.2 (by omega)
      rw [hw1, ih, e]
      simp only [List.append_assoc]
    · rw [if_neg hc, encLoop_bad hc]

theorem enc_pos {enc : Int} : ∀ (t : List Int) (st i : Int), 0 ≤ i → ∀ j, (encLoop enc st i t).2.2 = some j → 0 ≤ j := by
    intro t
    induction t with
    | nil => intro st i _ j h; simp [encLoop] at h
    | cons c t ih =>
      intro st i hi j h
      by_cases hc : hasC enc c = true
      · rw [encLoop_cons hc] at h; exact ih _ _ (by omega) j h
      · rw [encLoop_bad hc] at h; simp at h; omega

theorem encode_f2 {enc : Int} (he : encOk enc) {l : List Int} (hn : l.length ≤ 20000) (hl : ∀ c ∈ l, 0 ≤ c) {k : Nat} (hk : l.length + 4 ≤ k) :
    sorobanref18_Encode.f k enc l = some (match (encLoop enc 0 0 l).2.2 with | none => ((encLoop enc 0 0 l).1 ++ turnC (encLoop enc 0 0 l).2.1 0, -1) | some i => ([], i)) :=
  encode_l0 he hn hl l [] [] 0 k (-1) rfl (by simp) (fun _ => .inl rfl) (fun _ => rfl) (by omega)

set_option maxHeartbeats 1000000 in
theorem CharsConvert : sorobanlaw18_CharsConvert.Pure := by
  intro a0 a1 l2 _ _ hm _ hl
  clear hm
  refine ⟨45010, ?_⟩
  have hb := wf_u8s hl
  clear hl
  have top : sorobanlaw18_CharsConvert.j0 45010 a0 a1 l2 true = some true := by rw [sorobanlaw18_CharsConvert.j0, if_pos rfl]; rfl
  have main : (l2.length ≤ 2000 ∨ 20000 < l2.length) → sorobanlaw18_CharsConvert.j0 45010 a0 a1 l2 false = some true := by
    intro hn
    have bad : convertC a0 a1 l2 = ([], 1, 0) → sorobanlaw18_CharsConvert.j1 45009 a0 a1 l2 (convertC a0 a1 l2).1 (convertC a0 a1 l2).2.1 (convertC a0 a1 l2).2.2 true = some true := by
      intro h
      rw [sorobanlaw18_CharsConvert.j1, if_pos rfl, sanity_f, Option.bind_some, h]
      rfl
    rw [sorobanlaw18_CharsConvert.j0, if_neg (by decide), convert_f hb, Option.bind_some, right_x, Option.bind_some]
    by_cases he : encOk a0
    · have hs0 : stOk a0 0 := stOk_of (fun _ => .inl rfl) (fun _ => rfl)
      rw [if_pos (by simpa using And.intro he hs0), right_x, Option.bind_some]
      by_cases he1 : encOk a1
      · have hs1 : stOk a1 0 := stOk_of (fun _ => .inl rfl) (fun _ => rfl)
        rw [decide_eq_true (And.intro he1 hs1), sorobanlaw18_CharsConvert.j1, if_neg (by decide)]
        by_cases hlong : 20000 < l2.length
        · have e1 : convertC a0 a1 l2 = ([], 2, 0) := by unfold convertC; rw [if_neg (by simpa using he), if_neg (by simpa using he1), if_pos hlong]
          rw [if_pos (by omega), e1, sanity_f, Option.bind_some]
          rfl
        · obtain ⟨s, hs⟩ := decode_x he hb (by omega)
          have hlen := dec_len a0 l2.length 0 0 l2
          have hpos := at_pos a0 l2.length 0 0 l2 (by omega)
          rw [if_neg (by omega), hs, Option.bind_some]
          cases hD : (decodeLoop a0 l2.length 0 0 l2).2 with
          | some e =>
            have h0 := hpos e hD
            have hR : Ref.readR [] [] (decodeLoop a0 l2.length 0 0 l2) = ([], [], e) := by unfold Ref.readR; rw [hD]
            rw [hR, conv_err he he1 (by omega) hD]
            dsimp only
            rw [if_pos (show e ≥ 0 from h0), sanity_f, Option.bind_some]
            simp
          | none =>
            have hR : Ref.readR [] [] (decodeLoop a0 l2.length 0 0 l2) = ((decodeLoop a0 l2.length 0 0 l2).1.map (·.2), (decodeLoop a0 l2.length 0 0 l2).1.map (·.1), -1) := by unfold Ref.readR; rw [hD]; simp
            have hc := conv_ok he he1 (b := l2) (by omega) hD
            have hml : ((decodeLoop a0 l2.length 0 0 l2).1.map (·.1)).length = ((decodeLoop a0 l2.length 0 0 l2).1.map (·.2)).length := by rw [List.length_map, List.length_map]
            have hmn : ((decodeLoop a0 l2.length 0 0 l2).1.map (·.2)).length ≤ l2.length := by rw [List.length_map]; exact hlen
            have hd := decC_none he (b := l2) (by omega) hD
            have hmu : ∀ c ∈ (decodeLoop a0 l2.length 0 0 l2).1.map (·.2), 0 ≤ c := fun c hc => by
              have := (decode_u32 he hb).mem c (by rw [hd]; exact hc)
              exact this.1
            rw [hR, hc]
            dsimp only
            rw [if_neg (by decide)]
            generalize (decodeLoop a0 l2.length 0 0 l2).1.map (·.2) = m at hml hmn hmu ⊢
            generalize (decodeLoop a0 l2.length 0 0 l2).1.map (·.1) = o at hml ⊢
            rw [encode_f2 he1 (by omega) hmu (by omega), Option.bind_some]
            rcases enc_short (tt := a1) (m := m) (by omega) with ⟨i, h1, h2⟩ | ⟨bs, h1, h2, h3⟩
            · have h0 := enc_pos m 0 0 (by omega) i h2
              have h9 := encLoop_at a1 m 0 0 i h2
              rw [h1, h2, if_pos rfl]
              dsimp only
              rw [if_pos (show i ≥ 0 from h0), sanity_f, Option.bind_some, if_pos rfl, if_pos rfl, if_pos h0, if_pos (by omega), if_pos (by simp [rd])]
              rfl
            · rw [h1, h2]
              dsimp only
              rw [if_neg (show ¬ (0 : Int) = 15 by decide), if_neg (show ¬ (-1 : Int) ≥ 0 by decide), sanity_f, Option.bind_some, if_pos rfl, if_pos rfl, if_pos rfl, h3]
              simp
      · have e1 : convertC a0 a1 l2 = ([], 1, 0) := by unfold convertC; rw [if_neg (by simpa using he), if_pos (by simpa using he1)]
        rw [decide_eq_false (fun h => he1 h.1)]
        exact bad e1
    · have e1 : convertC a0 a1 l2 = ([], 1, 0) := by unfold convertC; rw [if_pos (by simpa using he)]
      rw [if_neg (by simp [he])]
      exact bad e1
  unfold sorobanlaw18_CharsConvert.f
  by_cases c1 : (l2.length : Int) > 2000
  · rw [if_pos c1]
    by_cases c2 : (l2.length : Int) ≤ 20000
    · rw [if_pos c2]; exact top
    · rw [if_neg c2]
      by_cases c3 : (l2.length : Int) > 20100
      · rw [decide_eq_true c3]; exact top
      · rw [decide_eq_false c3]; exact main (by omega)
  · rw [if_neg c1, decide_eq_false (by omega)]; exact main (by omega)
end Go.Proofs.Ytcekghcejmhhaaa.Pure
