/- Plain laws of the layer 'chars': no Go here. -/
import Derived.Test.YtcekghcejmhhaaaCharsSpec
set_option linter.unusedSimpArgs false
set_option linter.unusedVariables false
set_option linter.unnecessarySimpa false
namespace Go.Proofs.Ytcekghcejmhhaaa

theorem decodeLoop_unfold {enc st : Int} {f : Nat} {a : Int} {b : List Int} : decodeLoop enc (f + 1) st a b =
    if passedC enc b then ([], none) else if (nextC enc st b).kind = 1 then
      ((a, (nextC enc st b).ch) :: (decodeLoop enc f (nextC enc st b).st (a + (nextC enc st b).bytes) (b.drop (nextC enc st b).bytes.toNat)).1, (decodeLoop enc f (nextC enc st b).st (a + (nextC enc st b).bytes) (b.drop (nextC enc st b).bytes.toNat)).2)
    else ([], some a) := by rw [decodeLoop]

/-! ### 1. What was put is read -/
theorem restS_put1 {n c lo hi x : Int} {t : List Int} (h1 : lo ≤ x) (h2 : x ≤ hi) : restS n 1 c lo hi (x :: t) = ⟨1, c * 64 + x % 64, n, 0⟩ := by
  rw [restS]
  rw [if_neg (by omega), if_neg (by omega)]
  rfl
theorem restS_put2 {n c lo hi x y : Int} {t : List Int} (h1 : lo ≤ x) (h2 : x ≤ hi) (h3 : 128 ≤ y) (h4 : y ≤ 191) : restS n 2 c lo hi (x :: y :: t) = ⟨1, (c * 64 + x % 64) * 64 + y % 64, n, 0⟩ := by
  rw [restS]
  rw [if_neg (by omega), if_neg (by omega), restS_put1 h3 h4]
theorem restS_put3 {n c lo hi x y z : Int} {t : List Int} (h1 : lo ≤ x) (h2 : x ≤ hi) (h3 : 128 ≤ y) (h4 : y ≤ 191) (h5 : 128 ≤ z) (h6 : z ≤ 191) : restS n 3 c lo hi (x :: y :: z :: t) = ⟨1, ((c * 64 + x % 64) * 64 + y % 64) * 64 + z % 64, n, 0⟩ := by
  rw [restS]
  rw [if_neg (by omega), if_neg (by omega), restS_put2 h3 h4 h5 h6]

theorem nextU_put {c : Int} (h0 : 0 ≤ c) (h : c < 55296 ∨ 57343 < c ∧ c ≤ 1114111) (t : List Int) (st : Int) : nextU ((putC 2 st c).1 ++ t) = ⟨1, c, (putC 2 st c).1.length, 0⟩ := by
  unfold putC
  rw [if_neg (by decide), if_pos rfl]
  simp only
  by_cases h1 : c < 128
  · rw [if_pos h1]
    simp only [List.cons_append, List.nil_append, nextU]
    rw [if_pos (by omega)]
    simp; omega
  · rw [if_neg h1]
    by_cases h2 : c < 2048
    · rw [if_pos h2]
      simp only [List.cons_append, List.nil_append, nextU]
      rw [if_neg (by omega), if_pos (by omega), restS_put1 (by omega) (by omega)]
      simp; omega
    · rw [if_neg h2]
      by_cases h3 : c < 65536
      · rw [if_pos h3]
        simp only [List.cons_append, List.nil_append, nextU]
        rw [if_neg (by omega), if_neg (by omega)]
        by_cases k1 : 224 + c / 4096 ≤ 224
        · rw [if_pos (by omega), restS_put2 (by omega) (by omega) (by omega) (by omega)]
          simp; omega
        · rw [if_neg (by omega)]
          by_cases k2 : 224 + c / 4096 ≤ 236
          · rw [if_pos (by omega), restS_put2 (by omega) (by omega) (by omega) (by omega)]
            simp; omega
          · rw [if_neg (by omega)]
            by_cases k3 : 224 + c / 4096 ≤ 237
            · rw [if_pos (by omega), restS_put2 (by omega) (by omega) (by omega) (by omega)]
              simp; omega
            · rw [if_neg (by omega), if_pos (by omega), restS_put2 (by omega) (by omega) (by omega) (by omega)]
              simp; omega
      · rw [if_neg h3]
        simp only [List.cons_append, List.nil_append, nextU]
        rw [if_neg (by omega), if_neg (by omega), if_neg (by omega), if_neg (by omega), if_neg (by omega), if_neg (by omega)]
        by_cases k1 : 240 + c / 262144 ≤ 240
        · rw [if_pos (by omega), restS_put3 (by omega) (by omega) (by omega) (by omega) (by omega) (by omega)]
          simp; omega
        · rw [if_neg (by omega)]
          by_cases k2 : 240 + c / 262144 ≤ 243
          · rw [if_pos (by omega), restS_put3 (by omega) (by omega) (by omega) (by omega) (by omega) (by omega)]
            simp; omega
          · rw [if_neg (by omega), if_pos (by omega), restS_put3 (by omega) (by omega) (by omega) (by omega) (by omega) (by omega)]
            simp; omega

theorem good_of {x : Int} (h1 : 33 ≤ x) (h2 : x < 127) : good x = true := by simp [good, h1, h2]
theorem good_to {x : Int} (h : good x = true) : 33 ≤ x ∧ x < 127 := by simpa [good] using h

theorem nextS_c {n s : Int} {x : Int} {t : List Int} (h1 : ¬ x = 14) (h2 : ¬ x = 15) : nextS n s (x :: t) = if s = 0 then (if 127 < x then .bad else ⟨1, x, n + 1, 0⟩) else if good x = false then .bad else match t with
      | [] => .part
      | y :: _ => if good y = false then .bad else ⟨1, 19968 + 94 * (x - 33) + (y - 33), n + 2, 1⟩ := by
  cases t <;> simp [nextS, h1, h2]
theorem nextS_o {n s : Int} {t : List Int} : nextS n s (14 :: t) = nextS (n + 1) 1 t := by cases t <;> simp [nextS]
theorem nextS_i {n s : Int} {t : List Int} : nextS n s (15 :: t) = nextS (n + 1) 0 t := by cases t <;> simp [nextS]

theorem nextS_put {c st : Int} (h0 : 0 ≤ c) (hs : st = 0 ∨ st = 1) (h : c ≤ 127 ∧ c ≠ 14 ∧ c ≠ 15 ∨ 19968 ≤ c ∧ c ≤ 28803) (t : List Int) :
    nextS 0 st ((putC 3 st c).1 ++ t) = ⟨1, c, (putC 3 st c).1.length, (putC 3 st c).2⟩ := by
  unfold putC
  rw [if_neg (by decide), if_neg (by decide)]
  by_cases h1 : c ≤ 127
  · rw [if_pos h1]
    have e : c % 256 = c := by omega
    have n1 : ¬ c = 14 := by omega
    have n2 : ¬ c = 15 := by omega
    rcases hs with rfl | rfl
    · simp only [turnC, if_pos, List.nil_append, List.cons_append, e]
      rw [nextS_c n1 n2, if_pos rfl, if_neg (by omega)]
      simp
    · simp only [turnC, e]
      simp only [show ¬ ((1 : Int) = 0) by decide, if_neg, show ¬ ((0 : Int) = 1) by decide, if_false, List.cons_append, List.nil_append]
      rw [nextS_i, nextS_c n1 n2, if_pos rfl, if_neg (by omega)]
      simp
  · rw [if_neg h1]
    have n1 : ¬ 33 + (c - 19968) / 94 = 14 := by omega
    have n2 : ¬ 33 + (c - 19968) / 94 = 15 := by omega
    have g1 : good (33 + (c - 19968) / 94) = true := good_of (by omega) (by omega)
    have g2 : good (33 + (c - 19968) % 94) = true := good_of (by omega) (by omega)
    rcases hs with rfl | rfl
    · simp only [turnC, show ¬ ((0 : Int) = 1) by decide, if_false, if_true, List.cons_append, List.nil_append]
      rw [nextS_o, nextS_c n1 n2, if_neg (by decide), if_neg (by rw [g1]; simp)]
      simp only [g2]
      simp; omega
    · simp only [turnC, if_true, List.cons_append, List.nil_append]
      rw [nextS_c n1 n2, if_neg (by decide), if_neg (by rw [g1]; simp)]
      simp only [g2]
      simp; omega

/-- The states of an encoding. -/
def stC (enc st : Int) : Prop := enc = 3 → st = 0 ∨ st = 1

theorem next_put {enc st c : Int} (he : encOk enc) (h0 : 0 ≤ c) (hs : stC enc st) (h : hasC enc c = true) (t : List Int) :
    nextC enc st ((putC enc st c).1 ++ t) = ⟨1, c, (putC enc st c).1.length, (putC enc st c).2⟩ ∧ stC enc (putC enc st c).2 := by
  have : enc = 1 ∨ enc = 2 ∨ enc = 3 := by unfold encOk at he; omega
  rcases this with rfl | rfl | rfl
  · have hc : c < 256 := by simpa [hasC] using h
    refine ⟨?_, fun h => by simp at h⟩
    simp [nextC, putC, nextO]; omega
  · have hc : c < 55296 ∨ 57343 < c ∧ c ≤ 1114111 := by simpa [hasC] using h
    refine ⟨?_, fun h => by simp at h⟩
    have := nextU_put h0 hc t st
    unfold nextC
    rw [if_neg (by decide), if_pos rfl, this]
    simp [putC]
  · have hc : c ≤ 127 ∧ c ≠ 14 ∧ c ≠ 15 ∨ 19968 ≤ c ∧ c ≤ 28803 := by simpa [hasC] using h
    refine ⟨?_, fun _ => ?_⟩
    · have := nextS_put h0 (hs rfl) hc t
      unfold nextC
      rw [if_neg (by decide), if_neg (by decide), this]
    · unfold putC
      rw [if_neg (by decide), if_neg (by decide)]
      split <;> simp

theorem passed_put {enc st c : Int} (he : encOk enc) (h0 : 0 ≤ c) (h : hasC enc c = true) (t : List Int) : passedC enc ((putC enc st c).1 ++ t) = false ∧ 1 ≤ (putC enc st c).1.length := by
  have : enc = 1 ∨ enc = 2 ∨ enc = 3 := by unfold encOk at he; omega
  rcases this with rfl | rfl | rfl
  · simp [passedC, putC]
  · have : (putC 2 st c).1 ≠ [] := by unfold putC; rw [if_neg (by decide), if_pos rfl]; split <;> (try split) <;> (try split) <;> simp
    refine ⟨by simp [passedC, this], ?_⟩
    exact List.length_pos_iff.2 this
  · have hc : c ≤ 127 ∧ c ≠ 14 ∧ c ≠ 15 ∨ 19968 ≤ c ∧ c ≤ 28803 := by simpa [hasC] using h
    unfold putC
    rw [if_neg (by decide), if_neg (by decide)]
    by_cases h1 : c ≤ 127
    · rw [if_pos h1]
      have e : c % 256 = c := by omega
      refine ⟨?_, by simp⟩
      simp [passedC, e]
      omega
    · rw [if_neg h1]
      refine ⟨?_, by simp⟩
      simp [passedC]
      omega

/-! ### 2. What was written is read -/
theorem encLoop_cons {enc st i : Int} {c : Int} {l : List Int} (h : hasC enc c = true) : encLoop enc st i (c :: l) = ((putC enc st c).1 ++ (encLoop enc (putC enc st c).2 (i + 1) l).1, (encLoop enc (putC enc st c).2 (i + 1) l).2) := by rw [encLoop, if_pos h]
theorem encLoop_bad {enc st i : Int} {c : Int} {l : List Int} (h : ¬ hasC enc c = true) : encLoop enc st i (c :: l) = ([], st, some i) := by rw [encLoop, if_neg h]

theorem passed_end {enc st : Int} (he : encOk enc) (hs : stC enc st) (h1 : ¬ enc = 3 → st = 0) : passedC enc (turnC st 0) = true := by
  by_cases h : enc = 3
  · subst h
    rcases hs rfl with rfl | rfl <;> decide
  · rw [h1 h]; unfold passedC; rw [if_neg h]; rfl

theorem put_st {enc st c : Int} (he : encOk enc) (h : ¬ enc = 3) : (putC enc st c).2 = 0 := by
  unfold putC
  split
  · rfl
  · split
    · rfl
    · exfalso; unfold encOk at he; omega

theorem dec_enc {enc : Int} (he : encOk enc) : ∀ (l : List Int) (st i a : Int) (bs : List Int) (st' : Int) (tail : List Int) (f : Nat), (∀ c ∈ l, 0 ≤ c) → stC enc st → (¬ enc = 3 → st = 0) → encLoop enc st i l = (bs, st', none) → (bs ++ tail).length ≤ f →
    stC enc st' ∧ (¬ enc = 3 → st' = 0) ∧ l.length ≤ bs.length ∧ ∃ (g : Nat) (os : List (Int × Int)), tail.length ≤ g ∧ os.map (·.2) = l ∧
      decodeLoop enc f st a (bs ++ tail) = (os ++ (decodeLoop enc g st' (a + bs.length) tail).1, (decodeLoop enc g st' (a + bs.length) tail).2)
  | [], st, i, a, bs, st', tail, f, _, hs, hz, h, hf => by
    simp only [encLoop, Prod.mk.injEq] at h
    obtain ⟨rfl, rfl, _⟩ := h
    exact ⟨hs, hz, by simp, f, [], by simpa using hf, rfl, by simp⟩
  | c :: l, st, i, a, bs, st', tail, f, hl, hs, hz, h, hf => by
    by_cases hh : hasC enc c = true
    · rw [encLoop_cons hh] at h
      obtain ⟨p, hp⟩ : ∃ p, p = putC enc st c := ⟨_, rfl⟩
      obtain ⟨h1, h2⟩ := Prod.mk.inj h
      have hc := hl c (by simp)
      have hnx := next_put he hc hs hh ((encLoop enc (putC enc st c).2 (i + 1) l).1 ++ tail)
      have hps := passed_put (st := st) he hc hh ((encLoop enc (putC enc st c).2 (i + 1) l).1 ++ tail)
      obtain ⟨b2, hb2⟩ : ∃ b2, b2 = (encLoop enc (putC enc st c).2 (i + 1) l).1 := ⟨_, rfl⟩
      rw [← hb2] at h1 hnx hps
      subst h1
      have hlen : ((putC enc st c).1 ++ b2 ++ tail).length = (putC enc st c).1.length + (b2 ++ tail).length := by rw [List.append_assoc, List.length_append]
      obtain ⟨f', rfl⟩ : ∃ f', f = f' + 1 := ⟨f - 1, by have := hps.2; omega⟩
      obtain ⟨q1, q2, q3, g, os, q4, q5, q6⟩ := dec_enc he l (putC enc st c).2 (i + 1) (a + (putC enc st c).1.length) b2 st' tail f' (fun x hx => hl x (by simp [hx])) hnx.2 (fun h => put_st he h) (Prod.ext hb2.symm h2) (by have := hps.2; omega)
      refine ⟨q1, q2, ?_, g, (a, c) :: os, q4, by simp [q5], ?_⟩
      · have := hps.2; simp; omega
      · rw [List.append_assoc, decodeLoop_unfold, if_neg (by rw [hps.1]; simp), hnx.1]
        simp only [if_true]
        have hd : ((putC enc st c).1 ++ (b2 ++ tail)).drop ((putC enc st c).1.length : Int).toNat = b2 ++ tail := by simp
        rw [hd, q6]
        simp [Int.add_assoc]
    · rw [encLoop_bad hh] at h
      simp at h

theorem decodeLoop_end {enc st a : Int} {f : Nat} {b : List Int} (h : passedC enc b = true) : decodeLoop enc f st a b = ([], none) := by
  cases f with
  | zero => rfl
  | succ f => rw [decodeLoop_unfold, if_pos h]

/-- What was written is read. -/
theorem dec_of_enc {enc : Int} (he : encOk enc) {l bs : List Int} {e : Int} {a : Int} (hl : ∀ c ∈ l, 0 ≤ c) (h : encodedC enc l = (bs, e, a)) (h0 : e = 0) : decodeC enc bs = (l, 0, 0) ∧ bs.length ≤ 20000 ∧ l.length ≤ bs.length := by
  subst h0
  obtain ⟨R, hR⟩ : ∃ R, R = encLoop enc 0 0 l := ⟨_, rfl⟩
  obtain ⟨b1, st', o⟩ := R
  unfold encodedC at h
  rw [← hR] at h
  cases o with
  | some i => simp at h
  | none =>
    simp only at h
    split at h
    · simp at h
    · rename_i hlim
      obtain ⟨rfl, _⟩ := Prod.mk.inj h
      obtain ⟨q1, q2, q3, g, os, q4, q5, q6⟩ := dec_enc he l 0 0 0 b1 st' (turnC st' 0) (b1 ++ turnC st' 0).length hl (fun _ => .inl rfl) (fun _ => rfl) hR.symm (Nat.le_refl _)
      rw [decodeLoop_end (passed_end he q1 q2)] at q6
      refine ⟨?_, by omega, by simp; omega⟩
      unfold decodeC
      rw [if_neg (by simpa using he), if_neg hlim, q6]
      simp [q5]
end Go.Proofs.Ytcekghcejmhhaaa
