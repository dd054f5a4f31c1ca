/- What the law CharsEncode asks of numbers and lists alone: Encode and Fit return what the specification returns. -/
import Derived.Test.YtcekghcejmhhaaaXCharsEncodex2
import Derived.Test.YtcekghcejmhhaaaCharsExtR
set_option linter.unusedSimpArgs false
set_option linter.unusedVariables false
set_option linter.unnecessarySimpa false
namespace Go.Proofs.Ytcekghcejmhhaaa.Pure
open Go.RowKit Go.Proofs.Ytcekghcejmhhaaa.XCharsEncode Go.Proofs.YtcekghcejmhhaaaW.PrintWords Go.Proofs.YtcekghcejmhhaaaW.PrintLast Go.Proofs.Ytcekghcejmhhaaa

theorem st01 {enc st : Int} (h1 : stC enc st) (h2 : ¬ enc = 3 → st = 0) : st = 0 ∨ st = 1 := by
  by_cases h : enc = 3
  · exact h1 h
  · exact .inl (h2 h)
theorem put_st01 {enc st c : Int} (he : encOk enc) : stC enc (putC enc st c).2 ∧ (¬ enc = 3 → (putC enc st c).2 = 0) := by
  refine ⟨fun h3 => ?_, fun h3 => put_st he h3⟩
  subst h3
  unfold putC
  rw [if_neg (by decide), if_neg (by decide)]
  split
  · exact .inl rfl
  · exact .inr rfl
theorem hla (x y : List Int) : (x ++ y).length = x.length + y.length := List.length_append
theorem rd_app {pre t : List Int} {c : Int} : rd (pre ++ c :: t) (pre.length : Int) = c := by simp [rd]

theorem fit_l0 {enc most : Int} (he : encOk enc) {l : List Int} (hn : l.length ≤ 20000) (hl : ∀ c ∈ l, 0 ≤ c) : ∀ (t pre lg bb : List Int) (st : Int) (k : Nat), l = pre ++ t → lg.length ≤ 4 * pre.length → stC enc st → (¬ enc = 3 → st = 0) → t.length + 4 ≤ k →
    ∀ kk : Nat, kk = pre.length → sorobanref18_Fit.l0 k enc l most lg st (pre.length : Int) bb (kk : Int) 0 = some (fitLoop enc most st lg bb kk t)
  | [], pre, lg, bb, st, k, h, hlg, h1, h2, hk, kk, hkk => by
    obtain ⟨k, rfl⟩ : ∃ k', k = k' + 1 := ⟨k - 1, by omega⟩
    rw [sorobanref18_Fit.l0, if_neg (by rw [h]; simp), fit_nil]
  | c :: t, pre, lg, bb, st, k, h, hlg, h1, h2, hk, kk, hkk => by
    obtain ⟨k, rfl⟩ : ∃ k', k = k' + 1 := ⟨k - 1, by omega⟩
    have hlen : l.length = pre.length + (t.length + 1) := by rw [h]; simp
    have h0 : 0 ≤ c := hl c (by rw [h]; simp)
    have hrd : rd l (pre.length : Int) = c := by rw [h]; exact rd_app
    simp only [List.length_cons] at hk
    rw [sorobanref18_Fit.l0, if_pos (by omega), if_pos (by omega), hrd, has_x he, Option.bind_some]
    by_cases hc : hasC enc c = true
    · have hp4 := putC_len enc st c
      have hst := put_st01 (st := st) (c := c) he
      have htl := turnC_len2 (putC enc st c).2 0
      rw [if_pos hc, put_x he (st01 h1 h2) h0 hc, Option.bind_some, if_pos (by omega), Option.bind_some, reset_x (st01 hst.1 hst.2), Option.bind_some]
      have hll : (lg ++ (putC enc st c).1).length ≤ 4 * (pre.length + 1) := by rw [List.length_append]; omega
      have hw : wrap64 (((lg ++ (putC enc st c).1).length : Int) + ((turnC (putC enc st c).2 0).length : Int)) = (((lg ++ (putC enc st c).1) ++ turnC (putC enc st c).2 0).length : Int) := by
        rw [hla (lg ++ (putC enc st c).1) _]
        unfold wrap64
        omega
      rw [hw]
      by_cases hf : most < (((lg ++ (putC enc st c).1) ++ turnC (putC enc st c).2 0).length : Int)
      · rw [if_pos hf, fit_full hc hf]
      · rw [if_neg hf, fit_more hc hf, Option.bind_some, if_pos (by simp only [List.length_nil]; omega), Option.bind_some, Option.bind_some, List.nil_append, if_pos (by omega)]
        have hw1 : wrap64 ((pre.length : Int) + 1) = ((pre ++ [c]).length : Int) := by rw [List.length_append, List.length_singleton]; unfold wrap64; omega
        have ih := fit_l0 (most := most) he hn hl t (pre ++ [c]) (lg ++ (putC enc st c).1) ((lg ++ (putC enc st c).1) ++ turnC (putC enc st c).2 0) (putC enc st c).2 k (by rw [h]; simp) (by rw [hla pre [c], List.length_singleton]; exact hll) hst.1 hst.2 (by omega) (kk + 1) (by rw [List.length_append, List.length_singleton, hkk])
        rw [hw1]
        have e : ((pre ++ [c]).length : Int) = ((kk + 1 : Nat) : Int) := by rw [List.length_append, List.length_singleton, hkk]
        rw [← ih, e]
    · rw [if_neg hc, fit_bad hc]

theorem encode_l0 {enc : Int} (he : encOk enc) {l : List Int} (hn : l.length ≤ 20000) (hl : ∀ c ∈ l, 0 ≤ c) : ∀ (t pre lg : List Int) (st : Int) (k : Nat) (a : Int), l = pre ++ t → lg.length ≤ 4 * pre.length → stC enc st → (¬ enc = 3 → st = 0) → t.length + 4 ≤ k →
    sorobanref18_Encode.l0 k enc l st (pre.length : Int) lg a = some (match (encLoop enc st (pre.length : Int) t).2.2 with | none => (lg ++ (encLoop enc st (pre.length : Int) t).1 ++ turnC (encLoop enc st (pre.length : Int) t).2.1 0, a) | some i => ([], i))
  | [], pre, lg, st, k, a, h, hlg, h1, h2, hk => by
    obtain ⟨k, rfl⟩ : ∃ k', k = k' + 1 := ⟨k - 1, by omega⟩
    have htl := turnC_len2 st 0
    have hp : pre.length ≤ 20000 := by rw [h, List.append_nil] at hn; exact hn
    rw [sorobanref18_Encode.l0, if_neg (by rw [h]; simp), reset_x (st01 h1 h2), Option.bind_some, if_pos (by omega)]
    simp [encLoop]
  | c :: t, pre, lg, st, k, a, h, hlg, h1, h2, hk => by
    obtain ⟨k, rfl⟩ : ∃ k', k = k' + 1 := ⟨k - 1, by omega⟩
    have hlen : l.length = pre.length + (t.length + 1) := by rw [h]; simp
    have h0 : 0 ≤ c := hl c (by rw [h]; simp)
    have hrd : rd l (pre.length : Int) = c := by rw [h]; exact rd_app
    simp only [List.length_cons] at hk
    rw [sorobanref18_Encode.l0, if_pos (by omega), if_pos (by omega), hrd, has_x he, Option.bind_some]
    by_cases hc : hasC enc c = true
    · have hp4 := putC_len enc st c
      have hst := put_st01 (st := st) (c := c) he
      rw [if_pos hc, put_x he (st01 h1 h2) h0 hc, Option.bind_some, if_pos (by omega), encLoop_cons hc]
      have hw1 : wrap64 ((pre.length : Int) + 1) = ((pre ++ [c]).length : Int) := by rw [List.length_append, List.length_singleton]; unfold wrap64; omega
      have e : ((pre ++ [c]).length : Int) = (pre.length : Int) + 1 := by rw [List.length_append, List.length_singleton]; rfl
      have ih := encode_l0 he hn hl t (pre ++ [c]) (lg ++ (putC enc st c).1) (putC enc st c).2 k a (by rw [h]; simp) (by rw [List.length_append, List.length_append, List.length_singleton]; omega) hst.1 hst.2 (by omega)
      rw [hw1, ih, e]
      simp only [List.append_assoc]
    · rw [if_neg hc, encLoop_bad hc]

theorem j2_f {enc : Int} (he : encOk enc) {l : List Int} (hn : l.length ≤ 20000) (hl : ∀ c ∈ l, 0 ≤ c) {k : Nat} (hk : l.length + 5 ≤ k) : sorobanlaw18_CharsEncode.j2 k enc l (encodeC enc l).1 (encodeC enc l).2.1 (encodeC enc l).2.2 = some true := by
  obtain ⟨k, rfl⟩ : ∃ k', k = k' + 1 := ⟨k - 1, by omega⟩
  rw [sorobanlaw18_CharsEncode.j2]
  unfold sorobanref18_Encode.f
  have this : sorobanref18_Encode.l0 k enc l 0 0 [] (-1) = some (match (encLoop enc 0 0 l).2.2 with | none => ([] ++ (encLoop enc 0 0 l).1 ++ turnC (encLoop enc 0 0 l).2.1 0, -1) | some i => ([], i)) :=
    encode_l0 he hn hl l [] [] 0 k (-1) rfl (by simp) (fun _ => .inl rfl) (fun _ => rfl) (by omega)
  rw [this, Option.bind_some, encode_eq he hn]
  obtain ⟨bs, st', o, hR⟩ : ∃ bs st' o, encLoop enc 0 0 l = (bs, st', o) := ⟨_, _, _, rfl⟩
  have hpos : ∀ (t : List Int) (st i : Int), 0 ≤ i → ∀ j, (encLoop enc st i t).2.2 = some j → 0 ≤ j := by
    intro t
    induction t with
    | nil => intro st i _ j h; simp [encLoop] at h
    | cons c t ih =>
      intro st i hi j h
      by_cases hc : hasC enc c = true
      · rw [encLoop_cons hc] at h; exact ih _ _ (by omega) j h
      · rw [encLoop_bad hc] at h; simp at h; omega
  have hj := hpos l 0 0 (by omega)
  rw [hR] at hj ⊢
  cases o with
  | some j =>
    have hp := hj j rfl
    have hE : encodedC enc l = ([], 15, j) := by unfold encodedC; rw [hR]
    rw [hE]
    dsimp only
    rw [if_pos (show j ≥ 0 from hp)]
    simp [sanity_f]
  | none =>
    by_cases hz : 20000 < (bs ++ turnC st' 0).length
    · have hE : encodedC enc l = ([], 2, 0) := by unfold encodedC; rw [hR]; dsimp only; rw [if_pos hz]
      rw [hE]
      dsimp only
      rw [if_neg (by decide), List.nil_append, if_pos (by omega)]
      simp [sanity_f]
    · have hE : encodedC enc l = (bs ++ turnC st' 0, 0, 0) := by unfold encodedC; rw [hR]; dsimp only; rw [if_neg hz]
      rw [hE]
      dsimp only
      rw [if_neg (by decide), List.nil_append, if_neg (by omega)]
      simp [sanity_f]

theorem w0 : wrap64 0 = 0 := by unfold wrap64; omega
set_option maxHeartbeats 1000000 in
theorem CharsEncode : sorobanlaw18_CharsEncode.Pure := by
  intro a0 l1 a2 _ hm _ hl h2
  clear hm h2
  refine ⟨20010, ?_⟩
  have hu := wf_u32 hl
  have hz : ∀ c ∈ l1, 0 ≤ c := fun c hc => (hu c hc).1
  clear hl
  have top : sorobanlaw18_CharsEncode.j0 20010 a0 l1 a2 true = some true := by rw [sorobanlaw18_CharsEncode.j0, if_pos rfl]; rfl
  have main : (l1.length ≤ 7000 ∨ 20000 < l1.length) → sorobanlaw18_CharsEncode.j0 20010 a0 l1 a2 false = some true := by
    intro hn
    rw [sorobanlaw18_CharsEncode.j0, if_neg (by decide), encode_f hu, Option.bind_some, fit_f hu, Option.bind_some, right_x, Option.bind_some]
    by_cases he : encOk a0
    · have hs0 : stOk a0 0 := stOk_of (fun _ => .inl rfl) (fun _ => rfl)
      rw [if_pos (by simpa using And.intro he hs0)]
      by_cases hlong : 20000 < l1.length
      · have e1 : encodeC a0 l1 = ([], 2, 0) := by unfold encodeC; rw [if_neg (by simpa using he), if_pos hlong]
        have e2 : fitC a0 l1 a2 = ([], 0, 2) := by unfold fitC; rw [if_neg (by simpa using he), if_pos hlong]
        rw [if_pos (by omega), e1, e2, sanity_f, Option.bind_some]
        simp [w0]
      · rw [if_neg (by omega)]
        have hj2 : ∀ k, l1.length + 5 ≤ k → _ := fun k hk => j2_f he (l := l1) (by omega) hz (k := k) hk
        by_cases hneg : a2 < 0
        · have e2 : fitC a0 l1 a2 = ([], 0, 1) := by unfold fitC; rw [if_neg (by simpa using he), if_neg hlong, if_pos hneg]
          rw [if_pos hneg, e2]
          dsimp only
          rw [if_pos (show (1 : Int) = 1 from rfl), show (!(wrap64 ((([] : List Int).length : Int) + 0) == 0)) = false by simp [w0], sorobanlaw18_CharsEncode.j1, if_neg (by decide), if_neg (by omega)]
          exact hj2 20008 (by omega)
        · have e2 : fitC a0 l1 a2 = fitLoop a0 a2 0 [] [] 0 l1 := by unfold fitC; rw [if_neg (by simpa using he), if_neg hlong, if_neg hneg]
          have hfit : sorobanref18_Fit.l0 20008 a0 l1 a2 [] 0 0 [] 0 0 = some (fitLoop a0 a2 0 [] [] 0 l1) := fit_l0 (most := a2) he (l := l1) (by omega) hz l1 [] [] [] 0 20008 rfl (by simp) (fun _ => .inl rfl) (fun _ => rfl) (by omega) 0 rfl
          rw [if_neg hneg, sorobanlaw18_CharsEncode.j1, if_neg (by decide), if_pos (by omega), e2]
          unfold sorobanref18_Fit.f
          rw [hfit, Option.bind_some, if_pos rfl, if_pos rfl, if_pos rfl]
          exact hj2 20008 (by omega)
    · have e1 : encodeC a0 l1 = ([], 1, 0) := by unfold encodeC; rw [if_pos (by simpa using he)]
      have e2 : fitC a0 l1 a2 = ([], 0, 1) := by unfold fitC; rw [if_pos (by simpa using he)]
      rw [if_neg (by simp [he]), e1, e2, sanity_f, Option.bind_some]
      simp [w0]
  unfold sorobanlaw18_CharsEncode.f
  by_cases c1 : (l1.length : Int) > 7000
  · rw [if_pos c1]
    by_cases c2 : (l1.length : Int) ≤ 20000
    · rw [if_pos c2]; exact top
    · rw [if_neg c2]
      by_cases c3 : (l1.length : Int) > 20100
      · rw [decide_eq_true c3]; exact top
      · rw [decide_eq_false c3]; exact main (by omega)
  · rw [if_neg c1, decide_eq_false (by omega)]; exact main (by omega)
end Go.Proofs.Ytcekghcejmhhaaa.Pure
