/- What the law CharsPieces asks of numbers and lists alone: what the first bytes say, all say; bytes that say nothing yet can be followed by at most three. -/
import Derived.Test.YtcekghcejmhhaaaXCharsPiecesx
import Derived.Test.YtcekghcejmhhaaaCharsLawF
set_option linter.unusedSimpArgs false
set_option linter.unusedVariables false
set_option linter.unnecessarySimpa false
namespace Go.Proofs.Ytcekghcejmhhaaa.Pure
open Go.RowKit Go.Proofs.Ytcekghcejmhhaaa.XCharsPieces Go.Proofs.YtcekghcejmhhaaaW.PrintWords Go.Proofs.YtcekghcejmhhaaaW.PrintLast Go.Proofs.Ytcekghcejmhhaaa

/-- The bytes that 'begun' tries. -/
def tries : List Int := [33, 128, 144, 191]
theorem tries_byt {x : Int} (h : x ∈ tries) : 0 ≤ x ∧ x ≤ 255 := by simp [tries] at h; omega

/-- Some of the bytes behind, and a character stands there. -/
def Goes (enc st : Int) (k : Nat) (b : List Int) : Prop := ∃ t : List Int, (∀ x ∈ t, x ∈ tries) ∧ t.length ≤ k ∧ (nextC enc st (b ++ t)).kind = 1

theorem rest_fill {n : Int} : ∀ (r : Nat) (c : Int), (restS n r c 128 191 (List.replicate r 128)).kind = 1
  | 0, c => by rw [restS]
  | r + 1, c => by rw [List.replicate_succ, restS, if_neg (by decide), if_neg (by decide)]; exact rest_fill r _
theorem rest_goes {n : Int} : ∀ (r : Nat) (c lo hi y : Int) (p : List Int), y ∈ tries → lo ≤ y → y ≤ hi → (restS n r c lo hi p).kind = 3 → ∃ t : List Int, (∀ x ∈ t, x ∈ tries) ∧ t.length ≤ r ∧ (restS n r c lo hi (p ++ t)).kind = 1
  | 0, c, lo, hi, y, p, _, _, _, h => by rw [restS] at h; simp at h
  | r + 1, c, lo, hi, y, [], hy, h1, h2, _ => by
    refine ⟨y :: List.replicate r 128, ?_, by simp, ?_⟩
    · intro x hx
      rcases List.mem_cons.1 hx with rfl | hx
      · exact hy
      · rw [(List.mem_replicate.1 hx).2]; decide
    · rw [List.nil_append, restS, if_neg (by omega), if_neg (by omega)]; exact rest_fill r _
  | r + 1, c, lo, hi, y, x :: p, hy, h1, h2, h => by
    rw [restS] at h
    split at h
    · simp [Step.bad] at h
    · split at h
      · simp [Step.bad] at h
      · rename_i k1 k2
        obtain ⟨t, q1, q2, q3⟩ := rest_goes r _ 128 191 128 p (by decide) (by decide) (by decide) h
        exact ⟨t, q1, by omega, by rw [List.cons_append, restS, if_neg k1, if_neg k2]; exact q3⟩
/-- A choice between steps, for bytes with more behind them. -/
def GoesTo (F : List Int → Step) (p : List Int) : Prop := (F p).kind = 3 → ∃ t : List Int, (∀ x ∈ t, x ∈ tries) ∧ t.length ≤ 3 ∧ (F (p ++ t)).kind = 1
theorem GoesTo.ite {c : Prop} [Decidable c] {F G : List Int → Step} {p : List Int} (h1 : GoesTo F p) (h2 : GoesTo G p) : GoesTo (fun q => if c then F q else G q) p := by
  unfold GoesTo at *
  by_cases h : c
  · simp only [if_pos h]; exact h1
  · simp only [if_neg h]; exact h2
theorem GoesTo.rest {n : Int} {r : Nat} {c lo hi : Int} (y : Int) {p : List Int} (hr : r ≤ 3) (hy : y ∈ tries) (h1 : lo ≤ y) (h2 : y ≤ hi) : GoesTo (fun q => restS n r c lo hi q) p := fun h => by
  obtain ⟨t, q1, q2, q3⟩ := rest_goes r c lo hi y p hy h1 h2 h
  exact ⟨t, q1, by omega, q3⟩
theorem GoesTo.whole {a b c : Int} {p : List Int} : GoesTo (fun _ => ⟨1, a, b, c⟩) p := fun h => by simp at h
theorem GoesTo.bad {p : List Int} : GoesTo (fun _ => .bad) p := fun h => by simp [Step.bad] at h
theorem goesU (b : List Int) (h : (nextU b).kind = 3) : ∃ t : List Int, (∀ x ∈ t, x ∈ tries) ∧ t.length ≤ 3 ∧ (nextU (b ++ t)).kind = 1 := by
  cases b with
  | nil => exact ⟨[33], by decide, by decide, by decide⟩
  | cons x p =>
    have : GoesTo (fun q => nextU (x :: q)) p := by
      simp only [nextU_c]
      exact .ite .whole (.ite (.rest 128 (by decide) (by decide) (by decide) (by decide)) (.ite (.rest 191 (by decide) (by decide) (by decide) (by decide)) (.ite (.rest 128 (by decide) (by decide) (by decide) (by decide)) (.ite (.rest 128 (by decide) (by decide) (by decide) (by decide)) (.ite (.rest 128 (by decide) (by decide) (by decide) (by decide)) (.ite (.rest 144 (by decide) (by decide) (by decide) (by decide)) (.ite (.rest 128 (by decide) (by decide) (by decide) (by decide)) (.ite (.rest 128 (by decide) (by decide) (by decide) (by decide)) .bad))))))))
    exact this h
theorem goesS : ∀ (b : List Int) (n s : Int), (s = 0 ∨ s = 1) → (nextS n s b).kind = 3 → ∃ t : List Int, (∀ x ∈ t, x ∈ tries) ∧ t.length ≤ 3 ∧ (nextS n s (b ++ t)).kind = 1
  | [], n, s, hs, _ => by
    rcases hs with rfl | rfl
    · exact ⟨[33], by decide, by decide, by rw [List.nil_append, nextS_c (by decide) (by decide)]; rfl⟩
    · exact ⟨[33, 33], by decide, by decide, by rw [List.nil_append, nextS_c (by decide) (by decide)]; rfl⟩
  | x :: b, n, s, hs, h => by
    by_cases h1 : x = 14
    · subst h1
      rw [nextS_o] at h
      obtain ⟨t, q1, q2, q3⟩ := goesS b _ _ (.inr rfl) h
      exact ⟨t, q1, q2, by rw [List.cons_append, nextS_o]; exact q3⟩
    · by_cases h2 : x = 15
      · subst h2
        rw [nextS_i] at h
        obtain ⟨t, q1, q2, q3⟩ := goesS b _ _ (.inl rfl) h
        exact ⟨t, q1, q2, by rw [List.cons_append, nextS_i]; exact q3⟩
      · rw [nextS_c h1 h2] at h
        simp only [List.cons_append, nextS_c h1 h2]
        split at h
        · split at h
          · simp [Step.bad] at h
          · simp at h
        · rename_i h3
          simp only [if_neg h3]
          split at h
          · simp [Step.bad] at h
          · rename_i h4
            simp only [if_neg h4]
            cases b with
            | nil => exact ⟨[33], by decide, by decide, by simp [good]⟩
            | cons y b' =>
              simp only at h
              split at h
              · simp [Step.bad] at h
              · simp at h
theorem goes {enc st : Int} (hs : stC enc st) (h13 : encOk enc) {b : List Int} (h : (nextC enc st b).kind = 3) : Goes enc st 3 b := by
  unfold Goes
  unfold nextC at h ⊢
  split at h
  · rename_i h1
    simp only [if_pos h1]
    cases b with
    | nil => exact ⟨[33], by decide, by decide, rfl⟩
    | cons x t => simp [nextO] at h
  · rename_i h1
    simp only [if_neg h1]
    split at h
    · rename_i h2; simp only [if_pos h2]; exact goesU b h
    · rename_i h2; simp only [if_neg h2]; exact goesS b 0 st (hs (by unfold encOk at h13; omega)) h

/-- 'begun', with rounds enough. -/
theorem begun_f {enc st : Int} (he : encOk enc) (hs : stOk enc st) : ∀ (m k : Nat) (b : List Int), 8 * m + 4 ≤ k → b.length + m ≤ 20000 → (∀ x ∈ b, 0 ≤ x ∧ x ≤ 255) →
    ∃ r, sorobanlaw18_begun.f k enc st b m = some r ∧ (Goes enc st m b → r = true)
  | m, 0, b, hk, _, _ => by omega
  | m, k + 1, b, hk, hn, hb => by
    obtain ⟨k, rfl⟩ : ∃ k', k = k' + 1 := ⟨k - 1, by omega⟩
    rw [sorobanlaw18_begun.f, next_f hb, nextE_ok he hs (by omega)]
    simp only [Option.bind_some, if_true]
    rw [sorobanlaw18_begun.j0]
    by_cases h2 : (nextC enc st b).kind = 2
    · rw [if_pos (by simpa using h2)]
      refine ⟨false, rfl, fun ⟨t, _, _, ht⟩ => ?_⟩
      rw [next_more enc st b t (by omega)] at ht
      omega
    · rw [if_neg (by simpa using h2)]
      by_cases h1 : (nextC enc st b).kind = 1
      · rw [if_pos h1]; exact ⟨true, rfl, fun _ => rfl⟩
      · rw [if_neg h1]
        cases m with
        | zero =>
          rw [if_pos (by simp)]
          refine ⟨false, rfl, fun ⟨t, _, hl, ht⟩ => ?_⟩
          obtain rfl : t = [] := List.length_eq_zero_iff.1 (by omega)
          rw [List.append_nil] at ht
          exact absurd ht h1
        | succ m =>
          rw [if_neg (by push_cast; omega)]
          simp only [Option.bind_some, List.length_cons, List.length_nil]
          -- the loop over the bytes that are tried
          have loop : ∀ (d j k : Nat), d + j = 4 → 8 * m + 4 + d < k → ∃ r, sorobanlaw18_begun.l0 k enc st b ((m : Int) + 1) [33, 128, 144, 191] 4 j = some r ∧ ((∃ x ∈ tries.drop j, Goes enc st m (b ++ [x])) → r = true) := by
            intro d
            induction d with
            | zero =>
              intro j k hj hk
              obtain ⟨k, rfl⟩ : ∃ k', k = k' + 1 := ⟨k - 1, by omega⟩
              obtain rfl : j = 4 := by omega
              rw [sorobanlaw18_begun.l0, if_neg (by decide)]
              exact ⟨false, rfl, fun ⟨x, hx, _⟩ => by simp [tries] at hx⟩
            | succ d ih =>
              intro j k hj hk
              obtain ⟨k, rfl⟩ : ∃ k', k = k' + 1 := ⟨k - 1, by omega⟩
              have hj3 : j = 0 ∨ j = 1 ∨ j = 2 ∨ j = 3 := by omega
              obtain ⟨y, hy, hyr, hdr⟩ : ∃ y, y ∈ tries ∧ rd ([33, 128, 144, 191] : List Int) (j : Int) = y ∧ tries.drop j = y :: tries.drop (j + 1) := by
                rcases hj3 with rfl | rfl | rfl | rfl
                · exact ⟨33, by decide, rfl, rfl⟩
                · exact ⟨128, by decide, rfl, rfl⟩
                · exact ⟨144, by decide, rfl, rfl⟩
                · exact ⟨191, by decide, rfl, rfl⟩
              have hw : wrap64 ((j : Int) + 1) = ((j + 1 : Nat) : Int) := by unfold wrap64; omega
              have hw2 : wrap64 ((m : Int) + 1 - 1) = (m : Int) := by unfold wrap64; omega
              obtain ⟨r1, e1, e2⟩ := begun_f he hs m k (b ++ [y]) (by omega) (by simp; omega) (fun x hx => by
                rcases List.mem_append.1 hx with hx | hx
                · exact hb x hx
                · rw [List.mem_singleton.1 hx]; exact tries_byt hy)
              rw [sorobanlaw18_begun.l0, if_pos (by omega), if_pos (by omega), if_pos (by simp; omega)]
              simp only [Option.bind_some, List.nil_append, List.length_nil]
              rw [if_pos (by omega), if_pos (by omega), hyr, hw2, e1]
              simp only [Option.bind_some]
              by_cases hr : r1 = true
              · rw [if_pos hr]; exact ⟨true, rfl, fun _ => rfl⟩
              · rw [if_neg hr, hw]
                obtain ⟨r, f1, f2⟩ := ih (j + 1) k (by omega) (by omega)
                refine ⟨r, f1, fun ⟨x, hx, hg⟩ => ?_⟩
                rw [hdr] at hx
                rcases List.mem_cons.1 hx with rfl | hx
                · exact absurd (e2 hg) hr
                · exact f2 ⟨x, hx, hg⟩
          obtain ⟨r, e1, e2⟩ := loop 4 0 k (by omega) (by omega)
          refine ⟨r, e1, fun ⟨t, ht, hl, hk1⟩ => ?_⟩
          cases t with
          | nil => rw [List.append_nil] at hk1; exact absurd hk1 h1
          | cons y t' =>
            exact e2 ⟨y, by rw [List.drop_zero]; exact ht y (by simp), t', fun x hx => ht x (by simp [hx]), by simp at hl; omega, by rw [List.append_assoc]; exact hk1⟩

set_option maxHeartbeats 1000000 in
theorem CharsPieces : sorobanlaw18_CharsPieces.Pure := by
  intro a0 a1 l2 a3 h0 h1 hm _ hl h3
  clear hm h3
  refine ⟨30, ?_⟩
  have hu := wf_u8s hl
  have hx := wf_u8 h0
  unfold sorobanlaw18_CharsPieces.f
  by_cases c1 : (l2.length : Int) > 2000
  · rw [if_pos c1, sorobanlaw18_CharsPieces.j0, if_pos (show true = true from rfl)]; rfl
  · rw [if_neg c1]
    by_cases c2 : a3 < 0
    · rw [if_pos c2, sorobanlaw18_CharsPieces.j0, if_pos (show true = true from rfl)]; rfl
    · rw [if_neg c2]
      by_cases c3 : a3 > (l2.length : Int)
      · rw [sorobanlaw18_CharsPieces.j0, if_pos (by simpa using c3)]; rfl
      · have hen : encOk (1 + a0 % 3) := by unfold encOk; omega
        rw [sorobanlaw18_CharsPieces.j0, if_neg (by simpa using c3), which_f hx]
        generalize 1 + a0 % 3 = enc at hen
        have ht : ∀ x ∈ l2.take a3.toNat, 0 ≤ x ∧ x ≤ 255 := fun x hx => hu x (List.mem_of_mem_take hx)
        have hlt : (l2.take a3.toNat).length = a3.toNat := by rw [List.length_take]; omega
        rw [Option.bind_some, if_pos (by omega), if_pos (by omega), next_f ht, Option.bind_some]
        by_cases hs : stOk enc a1
        · rw [nextE_ok hen hs (by omega)]
          dsimp only
          rw [if_pos (show (0 : Int) = 0 from rfl)]
          have hk := next_kind enc a1 (l2.take a3.toNat)
          by_cases k3 : (nextC enc a1 (l2.take a3.toNat)).kind = 3
          · rw [if_pos k3, sanity_f, Option.bind_some, if_pos (show true = true from rfl)]
            obtain ⟨r, e1, e2⟩ := begun_f hen hs 3 29 (l2.take a3.toNat) (by omega) (by omega) ht
            have hp : nextC enc a1 (l2.take a3.toNat) = .part := by
              rcases hk with h | h | h
              · omega
              · rw [h] at k3; simp [Step.bad] at k3
              · exact h
            have e2' := e2 (goes (stOk_to hs).1 hen k3)
            rw [hp]
            rw [if_pos (by decide), show (3 : Int) = ((3 : Nat) : Int) from rfl, e1, e2']
            rfl
          · rw [if_neg k3, next_f hu, nextE_ok hen hs (by omega), Option.bind_some, sanity_f, Option.bind_some]
            have hmore : nextC enc a1 l2 = nextC enc a1 (l2.take a3.toNat) := by
              have := next_more enc a1 (l2.take a3.toNat) (l2.drop a3.toNat) k3
              rwa [List.take_append_drop] at this
            rw [hmore]
            rcases hk with ⟨q1, q2, q3⟩ | h | h
            · rw [hlt] at q3
              have q4 : (nextC enc a1 (l2.take a3.toNat)).bytes ≤ a3 := by omega
              simp [q1, q2, q4]
            · rw [h]; rfl
            · rw [h] at k3; exact absurd rfl k3
        · rw [nextE_no (fun h => hs h.2)]
          dsimp only
          rw [if_neg (by decide), sanity_f]
          rfl
end Go.Proofs.Ytcekghcejmhhaaa.Pure
