/- Joined: CharsLaw, CharsLawB, CharsLawC, CharsLawD, CharsLawE, CharsX: contracts of functions of the program, and plain laws. -/
import Derived.Test.YtcekghcejmhhaaaChK1
import Derived.Test.YtcekghcejmhhaaaChK4
import Derived.Test.YtcekghcejmhhaaaChK3
import Derived.Test.YtcekghcejmhhaaaChK5
set_option linter.unusedSimpArgs false
set_option linter.unusedVariables false
set_option linter.unnecessarySimpa false
/- Plain laws of the layer 'chars': no Go here. -/
namespace Go.Proofs.Ytcekghcejmhhaaa

theorem decodeLoop_unfold {enc st : Int} {f : Nat} {a : Int} {b : List Int} : decodeLoop enc (f + 1) st a b =
    if passedC enc b then ([], none) else if (nextC enc st b).kind = 1 then
      ((a, (nextC enc st b).ch) :: (decodeLoop enc f (nextC enc st b).st (a + (nextC enc st b).bytes) (b.drop (nextC enc st b).bytes.toNat)).1, (decodeLoop enc f (nextC enc st b).st (a + (nextC enc st b).bytes) (b.drop (nextC enc st b).bytes.toNat)).2)
    else ([], some a) := by rw [decodeLoop]

/-! ### 1. What was put is read -/
theorem restS_put1 {n c lo hi x : Int} {t : List Int} (h1 : lo ≤ x) (h2 : x ≤ hi) : restS n 1 c lo hi (x :: t) = ⟨1, c * 64 + x % 64, n, 0⟩ := by
  rw [restS]
  rw [if_neg (by omega), if_neg (by omega)]
  rfl
theorem restS_put2 {n c lo hi x y : Int} {t : List Int} (h1 : lo ≤ x) (h2 : x ≤ hi) (h3 : 128 ≤ y) (h4 : y ≤ 191) : restS n 2 c lo hi (x :: y :: t) = ⟨1, (c * 64 + x % 64) * 64 + y % 64, n, 0⟩ := by
  rw [restS]
  rw [if_neg (by omega), if_neg (by omega), restS_put1 h3 h4]
theorem restS_put3 {n c lo hi x y z : Int} {t : List Int} (h1 : lo ≤ x) (h2 : x ≤ hi) (h3 : 128 ≤ y) (h4 : y ≤ 191) (h5 : 128 ≤ z) (h6 : z ≤ 191) : restS n 3 c lo hi (x :: y :: z :: t) = ⟨1, ((c * 64 + x % 64) * 64 + y % 64) * 64 + z % 64, n, 0⟩ := by
  rw [restS]
  rw [if_neg (by omega), if_neg (by omega), restS_put2 h3 h4 h5 h6]

theorem nextU_put {c : Int} (h0 : 0 ≤ c) (h : c < 55296 ∨ 57343 < c ∧ c ≤ 1114111) (t : List Int) (st : Int) : nextU ((putC 2 st c).1 ++ t) = ⟨1, c, (putC 2 st c).1.length, 0⟩ := by
  unfold putC
  rw [if_neg (by decide), if_pos rfl]
  simp only
  by_cases h1 : c < 128
  · rw [if_pos h1]
    simp only [List.cons_append, List.nil_append, nextU]
    rw [if_pos (by omega)]
    simp; omega
  · rw [if_neg h1]
    by_cases h2 : c < 2048
    · rw [if_pos h2]
      simp only [List.cons_append, List.nil_append, nextU]
      rw [if_neg (by omega), if_pos (by omega), restS_put1 (by omega) (by omega)]
      simp; omega
    · rw [if_neg h2]
      by_cases h3 : c < 65536
      · rw [if_pos h3]
        simp only [List.cons_append, List.nil_append, nextU]
        rw [if_neg (by omega), if_neg (by omega)]
        by_cases k1 : 224 + c / 4096 ≤ 224
        · rw [if_pos (by omega), restS_put2 (by omega) (by omega) (by omega) (by omega)]
          simp; omega
        · rw [if_neg (by omega)]
          by_cases k2 : 224 + c / 4096 ≤ 236
          · rw [if_pos (by omega), restS_put2 (by omega) (by omega) (by omega) (by omega)]
            simp; omega
          · rw [if_neg (by omega)]
            by_cases k3 : 224 + c / 4096 ≤ 237
            · rw [if_pos (by omega), restS_put2 (by omega) (by omega) (by omega) (by omega)]
              simp; omega
            · rw [if_neg (by omega), if_pos (by omega), restS_put2 (by omega) (by omega) (by omega) (by omega)]
              simp; omega
      · rw [if_neg h3]
        simp only [List.cons_append, List.nil_append, nextU]
        rw [if_neg (by omega), if_neg (by omega), if_neg (by omega), if_neg (by omega), if_neg (by omega), if_neg (by omega)]
        by_cases k1 : 240 + c / 262144 ≤ 240
        · rw [if_pos (by omega), restS_put3 (by omega) (by omega) (by omega) (by omega) (by omega) (by omega)]
          simp; omega
        · rw [if_neg (by omega)]
          by_cases k2 : 240 + c / 262144 ≤ 243
          · rw [if_pos (by omega), restS_put3 (by omega) (by omega) (by omega) (by omega) (by omega) (by omega)]
            simp; omega
          · rw [if_neg (by omega), if_pos (by omega), restS_put3 (by omega) (by omega) (by omega) (by omega) (by omega) (by omega)]
            simp; omega

theorem good_of {x : Int} (h1 : 33 ≤ x) (h2 : x < 127) : good x = true := by simp [good, h1, h2]
theorem good_to {x : Int} (h : good x = true) : 33 ≤ x ∧ x < 127 := by simpa [good] using h

theorem nextS_c {n s : Int} {x : Int} {t : List Int} (h1 : ¬ x = 14) (h2 : ¬ x = 15) : nextS n s (x :: t) = if s = 0 then (if 127 < x then .bad else ⟨1, x, n + 1, 0⟩) else if good x = false then .bad else match t with
      | [] => .part
      | y :: _ => if good y = false then .bad else ⟨1, 19968 + 94 * (x - 33) + (y - 33), n + 2, 1⟩ := by
  cases t <;> simp [nextS, h1, h2]
theorem nextS_o {n s : Int} {t : List Int} : nextS n s (14 :: t) = nextS (n + 1) 1 t := by cases t <;> simp [nextS]
theorem nextS_i {n s : Int} {t : List Int} : nextS n s (15 :: t) = nextS (n + 1) 0 t := by cases t <;> simp [nextS]

theorem nextS_put {c st : Int} (h0 : 0 ≤ c) (hs : st = 0 ∨ st = 1) (h : c ≤ 127 ∧ c ≠ 14 ∧ c ≠ 15 ∨ 19968 ≤ c ∧ c ≤ 28803) (t : List Int) :
    nextS 0 st ((putC 3 st c).1 ++ t) = ⟨1, c, (putC 3 st c).1.length, (putC 3 st c).2⟩ := by
  unfold putC
  rw [if_neg (by decide), if_neg (by decide)]
  by_cases h1 : c ≤ 127
  · rw [if_pos h1]
    have e : c % 256 = c := by omega
    have n1 : ¬ c = 14 := by omega
    have n2 : ¬ c = 15 := by omega
    rcases hs with rfl | rfl
    · simp only [turnC, if_pos, List.nil_append, List.cons_append, e]
      rw [nextS_c n1 n2, if_pos rfl, if_neg (by omega)]
      simp
    · simp only [turnC, e]
      simp only [show ¬ ((1 : Int) = 0) by decide, if_neg, show ¬ ((0 : Int) = 1) by decide, if_false, List.cons_append, List.nil_append]
      rw [nextS_i, nextS_c n1 n2, if_pos rfl, if_neg (by omega)]
      simp
  · rw [if_neg h1]
    have n1 : ¬ 33 + (c - 19968) / 94 = 14 := by omega
    have n2 : ¬ 33 + (c - 19968) / 94 = 15 := by omega
    have g1 : good (33 + (c - 19968) / 94) = true := good_of (by omega) (by omega)
    have g2 : good (33 + (c - 19968) % 94) = true := good_of (by omega) (by omega)
    rcases hs with rfl | rfl
    · simp only [turnC, show ¬ ((0 : Int) = 1) by decide, if_false, if_true, List.cons_append, List.nil_append]
      rw [nextS_o, nextS_c n1 n2, if_neg (by decide), if_neg (by rw [g1]; simp)]
      simp only [g2]
      simp; omega
    · simp only [turnC, if_true, List.cons_append, List.nil_append]
      rw [nextS_c n1 n2, if_neg (by decide), if_neg (by rw [g1]; simp)]
      simp only [g2]
      simp; omega

/-- The states of an encoding. -/
def stC (enc st : Int) : Prop := enc = 3 → st = 0 ∨ st = 1

theorem next_put {enc st c : Int} (he : encOk enc) (h0 : 0 ≤ c) (hs : stC enc st) (h : hasC enc c = true) (t : List Int) :
    nextC enc st ((putC enc st c).1 ++ t) = ⟨1, c, (putC enc st c).1.length, (putC enc st c).2⟩ ∧ stC enc (putC enc st c).2 := by
  have : enc = 1 ∨ enc = 2 ∨ enc = 3 := by unfold encOk at he; omega
  rcases this with rfl | rfl | rfl
  · have hc : c < 256 := by simpa [hasC] using h
    refine ⟨?_, fun h => by simp at h⟩
    simp [nextC, putC, nextO]; omega
  · have hc : c < 55296 ∨ 57343 < c ∧ c ≤ 1114111 := by simpa [hasC] using h
    refine ⟨?_, fun h => by simp at h⟩
    have := nextU_put h0 hc t st
    unfold nextC
    rw [if_neg (by decide), if_pos rfl, this]
    simp [putC]
  · have hc : c ≤ 127 ∧ c ≠ 14 ∧ c ≠ 15 ∨ 19968 ≤ c ∧ c ≤ 28803 := by simpa [hasC] using h
    refine ⟨?_, fun _ => ?_⟩
    · have := nextS_put h0 (hs rfl) hc t
      unfold nextC
      rw [if_neg (by decide), if_neg (by decide), this]
    · unfold putC
      rw [if_neg (by decide), if_neg (by decide)]
      split <;> simp

theorem passed_put {enc st c : Int} (he : encOk enc) (h0 : 0 ≤ c) (h : hasC enc c = true) (t : List Int) : passedC enc ((putC enc st c).1 ++ t) = false ∧ 1 ≤ (putC enc st c).1.length := by
  have : enc = 1 ∨ enc = 2 ∨ enc = 3 := by unfold encOk at he; omega
  rcases this with rfl | rfl | rfl
  · simp [passedC, putC]
  · have : (putC 2 st c).1 ≠ [] := by unfold putC; rw [if_neg (by decide), if_pos rfl]; split <;> (try split) <;> (try split) <;> simp
    refine ⟨by simp [passedC, this], ?_⟩
    exact List.length_pos_iff.2 this
  · have hc : c ≤ 127 ∧ c ≠ 14 ∧ c ≠ 15 ∨ 19968 ≤ c ∧ c ≤ 28803 := by simpa [hasC] using h
    unfold putC
    rw [if_neg (by decide), if_neg (by decide)]
    by_cases h1 : c ≤ 127
    · rw [if_pos h1]
      have e : c % 256 = c := by omega
      refine ⟨?_, by simp⟩
      simp [passedC, e]
      omega
    · rw [if_neg h1]
      refine ⟨?_, by simp⟩
      simp [passedC]
      omega

/-! ### 2. What was written is read -/
theorem encLoop_cons {enc st i : Int} {c : Int} {l : List Int} (h : hasC enc c = true) : encLoop enc st i (c :: l) = ((putC enc st c).1 ++ (encLoop enc (putC enc st c).2 (i + 1) l).1, (encLoop enc (putC enc st c).2 (i + 1) l).2) := by rw [encLoop, if_pos h]
theorem encLoop_bad {enc st i : Int} {c : Int} {l : List Int} (h : ¬ hasC enc c = true) : encLoop enc st i (c :: l) = ([], st, some i) := by rw [encLoop, if_neg h]

theorem passed_end {enc st : Int} (he : encOk enc) (hs : stC enc st) (h1 : ¬ enc = 3 → st = 0) : passedC enc (turnC st 0) = true := by
  by_cases h : enc = 3
  · subst h
    rcases hs rfl with rfl | rfl <;> decide
  · rw [h1 h]; unfold passedC; rw [if_neg h]; rfl

theorem put_st {enc st c : Int} (he : encOk enc) (h : ¬ enc = 3) : (putC enc st c).2 = 0 := by
  unfold putC
  split
  · rfl
  · split
    · rfl
    · exfalso; unfold encOk at he; omega

theorem dec_enc {enc : Int} (he : encOk enc) : ∀ (l : List Int) (st i a : Int) (bs : List Int) (st' : Int) (tail : List Int) (f : Nat), (∀ c ∈ l, 0 ≤ c) → stC enc st → (¬ enc = 3 → st = 0) → encLoop enc st i l = (bs, st', none) → (bs ++ tail).length ≤ f →
    stC enc st' ∧ (¬ enc = 3 → st' = 0) ∧ l.length ≤ bs.length ∧ ∃ (g : Nat) (os : List (Int × Int)), tail.length ≤ g ∧ os.map (·.2) = l ∧
      decodeLoop enc f st a (bs ++ tail) = (os ++ (decodeLoop enc g st' (a + bs.length) tail).1, (decodeLoop enc g st' (a + bs.length) tail).2)
  | [], st, i, a, bs, st', tail, f, _, hs, hz, h, hf => by
    simp only [encLoop, Prod.mk.injEq] at h
    obtain ⟨rfl, rfl, _⟩ := h
    exact ⟨hs, hz, by simp, f, [], by simpa using hf, rfl, by simp⟩
  | c :: l, st, i, a, bs, st', tail, f, hl, hs, hz, h, hf => by
    by_cases hh : hasC enc c = true
    · rw [encLoop_cons hh] at h
      obtain ⟨p, hp⟩ : ∃ p, p = putC enc st c := ⟨_, rfl⟩
      obtain ⟨h1, h2⟩ := Prod.mk.inj h
      have hc := hl c (by simp)
      have hnx := next_put he hc hs hh ((encLoop enc (putC enc st c).2 (i + 1) l).1 ++ tail)
      have hps := passed_put (st := st) he hc hh ((encLoop enc (putC enc st c).2 (i + 1) l).1 ++ tail)
      obtain ⟨b2, hb2⟩ : ∃ b2, b2 = (encLoop enc (putC enc st c).2 (i + 1) l).1 := ⟨_, rfl⟩
      rw [← hb2] at h1 hnx hps
      subst h1
      have hlen : ((putC enc st c).1 ++ b2 ++ tail).length = (putC enc st c).1.length + (b2 ++ tail).length := by rw [List.append_assoc, List.length_append]
      obtain ⟨f', rfl⟩ : ∃ f', f = f' + 1 := ⟨f - 1, by have := hps.2; omega⟩
      obtain ⟨q1, q2, q3, g, os, q4, q5, q6⟩ := dec_enc he l (putC enc st c).2 (i + 1) (a + (putC enc st c).1.length) b2 st' tail f' (fun x hx => hl x (by simp [hx])) hnx.2 (fun h => put_st he h) (Prod.ext hb2.symm h2) (by have := hps.2; omega)
      refine ⟨q1, q2, ?_, g, (a, c) :: os, q4, by simp [q5], ?_⟩
      · have := hps.2; simp; omega
      · rw [List.append_assoc, decodeLoop_unfold, if_neg (by rw [hps.1]; simp), hnx.1]
        simp only [if_true]
        have hd : ((putC enc st c).1 ++ (b2 ++ tail)).drop ((putC enc st c).1.length : Int).toNat = b2 ++ tail := by simp
        rw [hd, q6]
        simp [Int.add_assoc]
    · rw [encLoop_bad hh] at h
      simp at h

theorem decodeLoop_end {enc st a : Int} {f : Nat} {b : List Int} (h : passedC enc b = true) : decodeLoop enc f st a b = ([], none) := by
  cases f with
  | zero => rfl
  | succ f => rw [decodeLoop_unfold, if_pos h]

/-- What was written is read. -/
theorem dec_of_enc {enc : Int} (he : encOk enc) {l bs : List Int} {e : Int} {a : Int} (hl : ∀ c ∈ l, 0 ≤ c) (h : encodedC enc l = (bs, e, a)) (h0 : e = 0) : decodeC enc bs = (l, 0, 0) ∧ bs.length ≤ 20000 ∧ l.length ≤ bs.length := by
  subst h0
  obtain ⟨R, hR⟩ : ∃ R, R = encLoop enc 0 0 l := ⟨_, rfl⟩
  obtain ⟨b1, st', o⟩ := R
  unfold encodedC at h
  rw [← hR] at h
  cases o with
  | some i => simp at h
  | none =>
    simp only at h
    split at h
    · simp at h
    · rename_i hlim
      obtain ⟨rfl, _⟩ := Prod.mk.inj h
      obtain ⟨q1, q2, q3, g, os, q4, q5, q6⟩ := dec_enc he l 0 0 0 b1 st' (turnC st' 0) (b1 ++ turnC st' 0).length hl (fun _ => .inl rfl) (fun _ => rfl) hR.symm (Nat.le_refl _)
      rw [decodeLoop_end (passed_end he q1 q2)] at q6
      refine ⟨?_, by omega, by simp; omega⟩
      unfold decodeC
      rw [if_neg (by simpa using he), if_neg hlim, q6]
      simp [q5]
end Go.Proofs.Ytcekghcejmhhaaa

/- Plain laws of the layer 'chars', 2: what was read is written back. No Go here. -/
namespace Go.Proofs.Ytcekghcejmhhaaa

theorem restS_inv1 {n c lo hi : Int} {t : List Int} (h : (restS n 1 c lo hi t).kind = 1) : ∃ y t', t = y :: t' ∧ lo ≤ y ∧ y ≤ hi ∧ restS n 1 c lo hi t = ⟨1, c * 64 + y % 64, n, 0⟩ := by
  cases t with
  | nil => simp [restS, Step.part] at h
  | cons y t' =>
    rw [restS] at h
    split at h
    · simp [Step.bad] at h
    · split at h
      · simp [Step.bad] at h
      · exact ⟨y, t', rfl, by omega, by omega, restS_put1 (by omega) (by omega)⟩
theorem restS_step {n c lo hi y : Int} {r : Nat} {t : List Int} (h1 : lo ≤ y) (h2 : y ≤ hi) : restS n (r + 1) c lo hi (y :: t) = restS n r (c * 64 + y % 64) 128 191 t := by
  rw [restS, if_neg (by omega), if_neg (by omega)]
theorem restS_inv {n c lo hi : Int} {r : Nat} {t : List Int} (h : (restS n (r + 1) c lo hi t).kind = 1) : ∃ y t', t = y :: t' ∧ lo ≤ y ∧ y ≤ hi ∧ restS n (r + 1) c lo hi t = restS n r (c * 64 + y % 64) 128 191 t' := by
  cases t with
  | nil => simp [restS, Step.part] at h
  | cons y t' =>
    rw [restS] at h
    split at h
    · simp [Step.bad] at h
    · split at h
      · simp [Step.bad] at h
      · exact ⟨y, t', rfl, by omega, by omega, restS_step (by omega) (by omega)⟩

/-- What a step of reading tells of writing. -/
structure PutNext (enc st : Int) (b : List Int) (S : Step) : Prop where
  has : hasC enc S.ch = true
  ch : 0 ≤ S.ch
  state : (putC enc st S.ch).2 = S.st
  len : ((putC enc st S.ch).1.length : Int) ≤ S.bytes
  same : ¬ enc = 3 → (putC enc st S.ch).1 = b.take S.bytes.toNat

theorem put2_1 {st c : Int} (h : c < 128) : putC 2 st c = ([c % 256], 0) := by
  unfold putC; rw [if_neg (by decide), if_pos rfl, if_pos h]
theorem put2_2 {st c : Int} (h0 : ¬ c < 128) (h : c < 2048) : putC 2 st c = ([192 + c / 64, 128 + c % 64], 0) := by
  unfold putC; rw [if_neg (by decide), if_pos rfl, if_neg h0, if_pos h]
theorem put2_3 {st c : Int} (h0 : ¬ c < 2048) (h : c < 65536) : putC 2 st c = ([224 + c / 4096, 128 + c / 64 % 64, 128 + c % 64], 0) := by
  unfold putC; rw [if_neg (by decide), if_pos rfl, if_neg (by omega), if_neg h0, if_pos h]
theorem put2_4 {st c : Int} (h : ¬ c < 65536) : putC 2 st c = ([240 + c / 262144, 128 + c / 4096 % 64, 128 + c / 64 % 64, 128 + c % 64], 0) := by
  unfold putC; rw [if_neg (by decide), if_pos rfl, if_neg (by omega), if_neg (by omega), if_neg h]
theorem has2 {c : Int} (h : c < 55296 ∨ 57343 < c ∧ c ≤ 1114111) : hasC 2 c = true := by
  unfold hasC; rw [if_neg (by decide), if_pos rfl]; simpa using h

theorem pn_2 {st x y : Int} {t : List Int} (hx : 194 ≤ x ∧ x ≤ 223) (hy : 128 ≤ y ∧ y ≤ 191) : PutNext 2 st (x :: y :: t) ⟨1, x % 32 * 64 + y % 64, 2, 0⟩ := by
  have h := put2_2 (st := st) (c := x % 32 * 64 + y % 64) (by omega) (by omega)
  refine ⟨has2 (by dsimp only; omega), by dsimp only; omega, by dsimp only; rw [h], by dsimp only; rw [h]; simp, fun _ => ?_⟩
  dsimp only
  rw [h]
  simp; omega
theorem pn_3 {st x y z : Int} {t : List Int} (hx : 224 ≤ x ∧ x ≤ 239) (hy : 128 ≤ y ∧ y ≤ 191) (h1 : x = 224 → 160 ≤ y) (h2 : x = 237 → y ≤ 159) (hz : 128 ≤ z ∧ z ≤ 191) : PutNext 2 st (x :: y :: z :: t) ⟨1, (x % 16 * 64 + y % 64) * 64 + z % 64, 3, 0⟩ := by
  have h := put2_3 (st := st) (c := (x % 16 * 64 + y % 64) * 64 + z % 64) (by omega) (by omega)
  refine ⟨has2 (by dsimp only; omega), by dsimp only; omega, by dsimp only; rw [h], by dsimp only; rw [h]; simp, fun _ => ?_⟩
  dsimp only
  rw [h]
  simp; omega
theorem pn_4 {st x y z v : Int} {t : List Int} (hx : 240 ≤ x ∧ x ≤ 244) (hy : 128 ≤ y ∧ y ≤ 191) (h1 : x = 240 → 144 ≤ y) (h2 : x = 244 → y ≤ 143) (hz : 128 ≤ z ∧ z ≤ 191) (hv : 128 ≤ v ∧ v ≤ 191) : PutNext 2 st (x :: y :: z :: v :: t) ⟨1, ((x % 8 * 64 + y % 64) * 64 + z % 64) * 64 + v % 64, 4, 0⟩ := by
  have h := put2_4 (st := st) (c := ((x % 8 * 64 + y % 64) * 64 + z % 64) * 64 + v % 64) (by omega)
  refine ⟨has2 (by dsimp only; omega), by dsimp only; omega, by dsimp only; rw [h], by dsimp only; rw [h]; simp, fun _ => ?_⟩
  dsimp only
  rw [h]
  simp; omega

theorem pn_r1 {st x lo hi : Int} {t : List Int} (hx : 194 ≤ x ∧ x ≤ 223) (hlo : 128 ≤ lo) (hhi : hi ≤ 191) (h : (restS 2 1 (x % 32) lo hi t).kind = 1) : PutNext 2 st (x :: t) (restS 2 1 (x % 32) lo hi t) := by
  obtain ⟨y, t', rfl, h1, h2, e⟩ := restS_inv1 h
  rw [e]
  exact pn_2 hx ⟨by omega, by omega⟩
theorem pn_r2 {st x lo hi : Int} {t : List Int} (hx : 224 ≤ x ∧ x ≤ 239) (hlo : 128 ≤ lo) (hhi : hi ≤ 191) (h1 : x = 224 → 160 ≤ lo) (h2 : x = 237 → hi ≤ 159) (h : (restS 3 2 (x % 16) lo hi t).kind = 1) : PutNext 2 st (x :: t) (restS 3 2 (x % 16) lo hi t) := by
  obtain ⟨y, t', rfl, a1, a2, e⟩ := restS_inv h
  rw [e] at h ⊢
  obtain ⟨z, t'', rfl, a3, a4, e2⟩ := restS_inv1 h
  rw [e2]
  exact pn_3 hx ⟨by omega, by omega⟩ (fun q => by have := h1 q; omega) (fun q => by have := h2 q; omega) ⟨a3, a4⟩
theorem pn_r3 {st x lo hi : Int} {t : List Int} (hx : 240 ≤ x ∧ x ≤ 244) (hlo : 128 ≤ lo) (hhi : hi ≤ 191) (h1 : x = 240 → 144 ≤ lo) (h2 : x = 244 → hi ≤ 143) (h : (restS 4 3 (x % 8) lo hi t).kind = 1) : PutNext 2 st (x :: t) (restS 4 3 (x % 8) lo hi t) := by
  obtain ⟨y, t', rfl, a1, a2, e⟩ := restS_inv h
  rw [e] at h ⊢
  obtain ⟨z, t'', rfl, a3, a4, e2⟩ := restS_inv h
  rw [e2] at h ⊢
  obtain ⟨v, t3, rfl, a5, a6, e3⟩ := restS_inv1 h
  rw [e3]
  exact pn_4 hx ⟨by omega, by omega⟩ (fun q => by have := h1 q; omega) (fun q => by have := h2 q; omega) ⟨a3, a4⟩ ⟨a5, a6⟩

def PnIf (st x : Int) (t : List Int) (S : Step) : Prop := S.kind = 1 → PutNext 2 st (x :: t) S
theorem PnIf.ite {st x : Int} {t : List Int} {c : Prop} [Decidable c] {a b : Step} (h1 : c → PnIf st x t a) (h2 : PnIf st x t b) : PnIf st x t (if c then a else b) := by
  split
  · exact h1 (by assumption)
  · exact h2
theorem put_nextU {st x : Int} {t : List Int} (h0 : 0 ≤ x ∧ x ≤ 255) : PnIf st x t (nextU (x :: t)) := by
  rw [nextU]
  refine .ite (fun h _ => ?_) (.ite (fun h k => pn_r1 h (by omega) (by omega) k) (.ite (fun h k => pn_r2 (by omega) (by omega) (by omega) (by omega) (by omega) k) (.ite (fun h k => pn_r2 (by omega) (by omega) (by omega) (by omega) (by omega) k) (.ite (fun h k => pn_r2 (by omega) (by omega) (by omega) (by omega) (by omega) k) (.ite (fun h k => pn_r2 (by omega) (by omega) (by omega) (by omega) (by omega) k)
    (.ite (fun h k => pn_r3 (by omega) (by omega) (by omega) (by omega) (by omega) k) (.ite (fun h k => pn_r3 (by omega) (by omega) (by omega) (by omega) (by omega) k) (.ite (fun h k => pn_r3 (by omega) (by omega) (by omega) (by omega) (by omega) k) (fun k => by simp [Step.bad] at k)))))))))
  have q := put2_1 (st := st) h
  refine ⟨has2 (by dsimp only; omega), by dsimp only; omega, by dsimp only; rw [q], by dsimp only; rw [q]; simp, fun _ => ?_⟩
  dsimp only
  rw [q]
  simp; omega

theorem put_nextS {st : Int} (hst : st = 0 ∨ st = 1) : ∀ (b : List Int) (n s : Int), 0 ≤ n → (s = 0 ∨ s = 1) → (¬ s = st → 1 ≤ n) → (∀ x ∈ b, 0 ≤ x) → (nextS n s b).kind = 1 →
    hasC 3 (nextS n s b).ch = true ∧ 0 ≤ (nextS n s b).ch ∧ (putC 3 st (nextS n s b).ch).2 = (nextS n s b).st ∧ ((putC 3 st (nextS n s b).ch).1.length : Int) ≤ (nextS n s b).bytes
  | [], n, s, _, _, _, _, h => by simp [nextS, Step.part] at h
  | x :: t, n, s, hn, hs, hd, hb, h => by
    by_cases h1 : x = 14
    · subst h1
      rw [nextS_o] at h ⊢
      exact put_nextS hst t _ _ (by omega) (.inr rfl) (fun _ => by omega) (fun y hy => hb y (by simp [hy])) h
    · by_cases h2 : x = 15
      · subst h2
        rw [nextS_i] at h ⊢
        exact put_nextS hst t _ _ (by omega) (.inl rfl) (fun _ => by omega) (fun y hy => hb y (by simp [hy])) h
      · have hx := hb x (by simp)
        rw [nextS_c h1 h2] at h ⊢
        by_cases h3 : s = 0
        · rw [if_pos h3] at h ⊢
          by_cases h4 : 127 < x
          · rw [if_pos h4] at h; simp [Step.bad] at h
          · rw [if_neg h4]
            have e : putC 3 st x = (turnC st 0 ++ [x % 256], 0) := by unfold putC; rw [if_neg (by decide), if_neg (by decide), if_pos (by omega)]
            refine ⟨?_, hx, by dsimp only; rw [e], ?_⟩
            · unfold hasC; rw [if_neg (by decide), if_neg (by decide)]; simp; omega
            · dsimp only
              rw [e]
              subst h3
              rcases hst with rfl | rfl
              · simp [turnC]; omega
              · have := hd (by decide)
                simp [turnC]; omega
        · rw [if_neg h3] at h ⊢
          have hs1 : s = 1 := by omega
          subst hs1
          by_cases h4 : good x = false
          · rw [if_pos h4] at h; simp [Step.bad] at h
          · rw [if_neg h4] at h ⊢
            obtain ⟨g1, g2⟩ := good_to (by simpa using h4)
            cases t with
            | nil => simp [Step.part] at h
            | cons y t' =>
              simp only at h ⊢
              by_cases h5 : good y = false
              · rw [if_pos h5] at h; simp [Step.bad] at h
              · rw [if_neg h5]
                obtain ⟨g3, g4⟩ := good_to (by simpa using h5)
                have e : putC 3 st (19968 + 94 * (x - 33) + (y - 33)) = (turnC st 1 ++ [33 + (19968 + 94 * (x - 33) + (y - 33) - 19968) / 94, 33 + (19968 + 94 * (x - 33) + (y - 33) - 19968) % 94], 1) := by unfold putC; rw [if_neg (by decide), if_neg (by decide), if_neg (by omega)]
                refine ⟨?_, by dsimp only; omega, by dsimp only; rw [e], ?_⟩
                · unfold hasC; rw [if_neg (by decide), if_neg (by decide)]; simp; omega
                · dsimp only
                  rw [e]
                  rcases hst with rfl | rfl
                  · have := hd (by decide)
                    simp [turnC]; omega
                  · simp [turnC]; omega

theorem put_next {enc st : Int} {b : List Int} (he : encOk enc) (hs : stC enc st) (hb : ∀ x ∈ b, 0 ≤ x ∧ x ≤ 255) (h : (nextC enc st b).kind = 1) : PutNext enc st b (nextC enc st b) := by
  have : enc = 1 ∨ enc = 2 ∨ enc = 3 := by unfold encOk at he; omega
  rcases this with rfl | rfl | rfl
  · cases b with
    | nil => simp [nextC, nextO, Step.part] at h
    | cons x t =>
      have := hb x (by simp)
      have e : putC 1 st x = ([x % 256], 0) := by unfold putC; rw [if_pos rfl]
      have e2 : nextC 1 st (x :: t) = ⟨1, x, 1, 0⟩ := rfl
      rw [e2]
      refine ⟨by simp [hasC]; omega, this.1, by dsimp only; rw [e], by dsimp only; rw [e]; simp, fun _ => ?_⟩
      dsimp only
      rw [e]
      simp; omega
  · have e : nextC 2 st b = nextU b := by unfold nextC; rw [if_neg (by decide), if_pos rfl]
    rw [e] at h ⊢
    cases b with
    | nil => simp [nextU, Step.part] at h
    | cons x t => exact put_nextU (hb x (by simp)) h
  · have e : nextC 3 st b = nextS 0 st b := by unfold nextC; rw [if_neg (by decide), if_neg (by decide)]
    rw [e] at h ⊢
    obtain ⟨h1, h2, h3, h4⟩ := put_nextS (hs rfl) b 0 st (by omega) (hs rfl) (fun h => absurd rfl h) (fun x hx => (hb x hx).1) h
    exact ⟨h1, h2, h3, h4, fun h => absurd rfl h⟩
end Go.Proofs.Ytcekghcejmhhaaa

/- Plain laws of the layer 'chars', 3: there and back. No Go here. -/
namespace Go.Proofs.Ytcekghcejmhhaaa

theorem next_st {enc st : Int} {b : List Int} (he : encOk enc) (hs : stC enc st) (hb : ∀ x ∈ b, 0 ≤ x ∧ x ≤ 255) (h : (nextC enc st b).kind = 1) : stC enc (nextC enc st b).st ∧ (¬ enc = 3 → (nextC enc st b).st = 0) :=
  ⟨fun h3 => by subst h3; exact nextC_st3 (hs rfl), fun h3 => by rw [← (put_next he hs hb h).state]; exact put_st he h3⟩

theorem enc_dec {enc : Int} (he : encOk enc) : ∀ (f : Nat) (st a : Int) (b : List Int) (os : List (Int × Int)), stC enc st → (¬ enc = 3 → st = 0) → (∀ x ∈ b, 0 ≤ x ∧ x ≤ 255) → b.length ≤ f → decodeLoop enc f st a b = (os, none) →
    ∃ (bs : List Int) (st' : Int), (∀ i, encLoop enc st i (os.map (·.2)) = (bs, st', none)) ∧ bs.length ≤ b.length ∧ (¬ enc = 3 → bs = b) ∧ stC enc st' ∧ (¬ enc = 3 → st' = 0) ∧ (∀ c ∈ os.map (·.2), 0 ≤ c) ∧ os.length ≤ b.length
  | 0, st, a, b, os, hs, hz, hb, hf, h => by
    have : b = [] := List.length_eq_zero_iff.1 (by omega)
    subst this
    simp only [decodeLoop, Prod.mk.injEq] at h
    obtain ⟨rfl, _⟩ := h
    exact ⟨[], st, fun i => rfl, by simp, fun _ => rfl, hs, hz, by simp, by simp⟩
  | f + 1, st, a, b, os, hs, hz, hb, hf, h => by
    rw [decodeLoop_unfold] at h
    by_cases hp : passedC enc b = true
    · rw [if_pos hp] at h
      obtain ⟨rfl, _⟩ := Prod.mk.inj h
      refine ⟨[], st, fun i => rfl, by simp, fun h3 => ?_, hs, hz, by simp, by simp⟩
      unfold passedC at hp
      rw [if_neg h3] at hp
      simpa using hp.symm
    · rw [if_neg hp] at h
      by_cases hk : (nextC enc st b).kind = 1
      · rw [if_pos hk] at h
        have hn := put_next he hs hb hk
        have hst := next_st he hs hb hk
        have hby := nextC_bytes hk
        obtain ⟨S, hS⟩ : ∃ S, S = nextC enc st b := ⟨_, rfl⟩
        rw [← hS] at h hn hst hby
        obtain ⟨D, hD⟩ : ∃ D, D = decodeLoop enc f S.st (a + S.bytes) (b.drop S.bytes.toNat) := ⟨_, rfl⟩
        rw [← hD] at h
        obtain ⟨os', o⟩ := D
        simp only [Prod.mk.injEq] at h
        obtain ⟨rfl, rfl⟩ := h
        obtain ⟨bs, st', q1, q2, q3, q4, q5, q6, q7⟩ := enc_dec he f S.st (a + S.bytes) (b.drop S.bytes.toNat) os' hst.1 hst.2 (fun x hx => hb x (List.mem_of_mem_drop hx)) (by rw [List.length_drop]; omega) hD.symm
        rw [List.length_drop] at q2 q7
        have hl := hn.len
        refine ⟨(putC enc st S.ch).1 ++ bs, st', fun i => ?_, ?_, fun h3 => ?_, q4, q5, ?_, ?_⟩
        · rw [List.map_cons, encLoop_cons hn.has, hn.state, q1]
        · rw [List.length_append]; omega
        · rw [q3 h3, hn.same h3, List.take_append_drop]
        · intro c hc
          rw [List.map_cons] at hc
          rcases List.mem_cons.1 hc with rfl | hc
          · exact hn.ch
          · exact q6 c hc
        · simp; omega
      · rw [if_neg hk] at h
        simp at h

theorem turnC_len2 (s t : Int) : (turnC s t).length ≤ 1 := by unfold turnC; split <;> (try split) <;> simp
/-- There and back. -/
theorem back_of_dec {enc : Int} (he : encOk enc) {b m : List Int} (hb : ∀ x ∈ b, 0 ≤ x ∧ x ≤ 255) (hn : b.length ≤ 19999) (h : decodeC enc b = (m, 0, 0)) :
    ∃ q, encodeC enc m = (q, 0, 0) ∧ q.length ≤ b.length + 1 ∧ (¬ enc = 3 → q = b) ∧ decodeC enc q = (m, 0, 0) ∧ m.length ≤ b.length ∧ (∀ c ∈ m, 0 ≤ c) := by
  unfold decodeC at h
  rw [if_neg (by simpa using he), if_neg (by omega)] at h
  obtain ⟨D, hD⟩ : ∃ D, D = decodeLoop enc b.length 0 0 b := ⟨_, rfl⟩
  rw [← hD] at h
  obtain ⟨os, o⟩ := D
  cases o with
  | some i => simp at h
  | none =>
    simp only [Prod.mk.injEq] at h
    obtain ⟨rfl, _⟩ := h
    obtain ⟨bs, st', q1, q2, q3, q4, q5, q6, q7⟩ := enc_dec he b.length 0 0 b os (fun _ => .inl rfl) (fun _ => rfl) hb (Nat.le_refl _) hD.symm
    have ht := turnC_len2 st' 0
    have hE : encodedC enc (os.map (·.2)) = (bs ++ turnC st' 0, 0, 0) := by
      unfold encodedC
      rw [q1 0]
      simp only
      rw [if_neg (by rw [List.length_append]; omega)]
    refine ⟨bs ++ turnC st' 0, ?_, by rw [List.length_append]; omega, fun h3 => ?_, (dec_of_enc he q6 hE rfl).1, by simpa using q7, q6⟩
    · unfold encodeC
      rw [if_neg (by simpa using he), if_neg (by rw [List.length_map]; omega)]
      exact hE
    · rw [q3 h3, q5 h3]; simp [turnC]

theorem dec_err {enc : Int} (he : encOk enc) {b : List Int} (hn : b.length ≤ 20000) : (decodeC enc b).2.1 = 0 ∧ (decodeC enc b).2.2 = 0 ∨ (decodeC enc b).2.1 = 15 ∧ (decodeC enc b).1 = [] := by
  unfold decodeC
  rw [if_neg (by simpa using he), if_neg (by omega)]
  simp only
  split
  · exact .inl ⟨rfl, rfl⟩
  · exact .inr ⟨rfl, rfl⟩
theorem encode_eq {enc : Int} (he : encOk enc) {l : List Int} (hn : l.length ≤ 20000) : encodeC enc l = encodedC enc l := by
  unfold encodeC
  rw [if_neg (by simpa using he), if_neg (by omega)]
end Go.Proofs.Ytcekghcejmhhaaa

/- Plain laws of the layer 'chars', 4: what fits. No Go here. -/
namespace Go.Proofs.Ytcekghcejmhhaaa

theorem encLoop_snoc {enc : Int} {c : Int} (hc : hasC enc c = true) : ∀ (x : List Int) (st i : Int) (lg : List Int) (st' : Int), encLoop enc st i x = (lg, st', none) → encLoop enc st i (x ++ [c]) = (lg ++ (putC enc st' c).1, (putC enc st' c).2, none)
  | [], st, i, lg, st', h => by
    simp only [encLoop, Prod.mk.injEq] at h
    obtain ⟨rfl, rfl, _⟩ := h
    rw [List.nil_append, encLoop_cons hc]
    simp [encLoop]
  | a :: x, st, i, lg, st', h => by
    by_cases ha : hasC enc a = true
    · rw [encLoop_cons ha] at h
      obtain ⟨h1, h2⟩ := Prod.mk.inj h
      rw [List.cons_append, encLoop_cons ha, encLoop_snoc hc x _ _ _ _ (Prod.ext rfl h2)]
      subst h1
      simp
    · rw [encLoop_bad ha] at h; simp at h

theorem fit_nil {enc most st : Int} {lg bb : List Int} {k : Nat} : fitLoop enc most st lg bb k [] = (bb, (k : Int), 0) := by rw [fitLoop]
theorem fit_bad {enc most st : Int} {lg bb : List Int} {k : Nat} {c : Int} {t : List Int} (h : ¬ hasC enc c = true) : fitLoop enc most st lg bb k (c :: t) = ([], 0, 15) := by rw [fitLoop, if_neg h]
theorem fit_full {enc most st : Int} {lg bb : List Int} {k : Nat} {c : Int} {t : List Int} (h : hasC enc c = true) (h2 : most < ((lg ++ (putC enc st c).1) ++ turnC (putC enc st c).2 0).length) :
    fitLoop enc most st lg bb k (c :: t) = (bb, (k : Int), 0) := by rw [fitLoop, if_pos h]; dsimp only; rw [if_pos h2]
theorem fit_more {enc most st : Int} {lg bb : List Int} {k : Nat} {c : Int} {t : List Int} (h : hasC enc c = true) (h2 : ¬ most < ((lg ++ (putC enc st c).1) ++ turnC (putC enc st c).2 0).length) :
    fitLoop enc most st lg bb k (c :: t) = fitLoop enc most (putC enc st c).2 (lg ++ (putC enc st c).1) ((lg ++ (putC enc st c).1) ++ turnC (putC enc st c).2 0) (k + 1) t := by rw [fitLoop, if_pos h]; dsimp only; rw [if_neg h2]

/-- What fits. -/
def FitOk (enc most : Int) (pre l : List Int) (r : List Int × Int × Int) : Prop :=
  r = ([], 0, 15) ∨ ∃ (a t lg : List Int) (st : Int), l = a ++ t ∧ encLoop enc 0 0 (pre ++ a) = (lg, st, none) ∧ r = (lg ++ turnC st 0, ((pre ++ a).length : Int), 0) ∧ ((lg ++ turnC st 0).length : Int) ≤ most ∧
    (t = [] ∨ ∃ c t', t = c :: t' ∧ hasC enc c = true ∧ most < ((lg ++ (putC enc st c).1) ++ turnC (putC enc st c).2 0).length)

theorem fit_spec {enc most : Int} : ∀ (l pre lg : List Int) (st : Int), encLoop enc 0 0 pre = (lg, st, none) → ((lg ++ turnC st 0).length : Int) ≤ most → FitOk enc most pre l (fitLoop enc most st lg (lg ++ turnC st 0) pre.length l)
  | [], pre, lg, st, h, hm => .inr ⟨[], [], lg, st, rfl, by simpa using h, by rw [fit_nil]; simp, hm, .inl rfl⟩
  | c :: l, pre, lg, st, h, hm => by
    by_cases hc : hasC enc c = true
    · by_cases hf : most < ((lg ++ (putC enc st c).1) ++ turnC (putC enc st c).2 0).length
      · exact .inr ⟨[], c :: l, lg, st, rfl, by simpa using h, by rw [fit_full hc hf]; simp, hm, .inr ⟨c, l, rfl, hc, hf⟩⟩
      · have hs := encLoop_snoc hc pre 0 0 lg st h
        have ih := fit_spec (most := most) l (pre ++ [c]) _ _ hs (by omega)
        rw [fit_more hc hf]
        have e : (pre ++ [c]).length = pre.length + 1 := by simp
        rw [e] at ih
        rcases ih with h1 | ⟨a, t, lg', st', rfl, q1, q2, q3, q4⟩
        · exact .inl h1
        · refine .inr ⟨c :: a, t, lg', st', rfl, by simpa using q1, ?_, q3, q4⟩
          rw [q2]; simp
    · exact .inl (fit_bad hc)

theorem fit_ge {enc more : Int} : ∀ (l lg bb : List Int) (st : Int) (k : Nat), (fitLoop enc more st lg bb k l).2.2 = 0 → (k : Int) ≤ (fitLoop enc more st lg bb k l).2.1
  | [], lg, bb, st, k, h => by rw [fit_nil]; simp
  | c :: l, lg, bb, st, k, h => by
    by_cases hc : hasC enc c = true
    · by_cases hf : more < ((lg ++ (putC enc st c).1) ++ turnC (putC enc st c).2 0).length
      · rw [fit_full hc hf]; simp
      · rw [fit_more hc hf] at h ⊢
        have := fit_ge l _ _ _ _ h
        push_cast at this
        omega
    · rw [fit_bad hc] at h; simp at h

theorem fit_mono {enc most more : Int} (hm : most ≤ more) : ∀ (l lg bb : List Int) (st : Int) (k : Nat),
    ((fitLoop enc most st lg bb k l).2.2 = 0 ∨ (fitLoop enc most st lg bb k l).2.2 = 15 ∧ (fitLoop enc more st lg bb k l).2.2 = 15) ∧
    ((fitLoop enc most st lg bb k l).2.2 = 0 → (fitLoop enc more st lg bb k l).2.2 = 0 → (fitLoop enc most st lg bb k l).2.1 ≤ (fitLoop enc more st lg bb k l).2.1)
  | [], lg, bb, st, k => by rw [fit_nil, fit_nil]; simp
  | c :: l, lg, bb, st, k => by
    by_cases hc : hasC enc c = true
    · by_cases hf : most < ((lg ++ (putC enc st c).1) ++ turnC (putC enc st c).2 0).length
      · rw [fit_full hc hf]
        refine ⟨.inl rfl, fun _ h => ?_⟩
        exact fit_ge (c :: l) lg bb st k h
      · have hf2 : ¬ more < ((lg ++ (putC enc st c).1) ++ turnC (putC enc st c).2 0).length := by omega
        rw [fit_more hc hf, fit_more hc hf2]
        exact fit_mono hm l _ _ _ _
    · rw [fit_bad hc, fit_bad hc]; simp

theorem encLoop_len {enc : Int} : ∀ (x : List Int) (st i : Int), (encLoop enc st i x).1.length ≤ 4 * x.length
  | [], st, i => by simp [encLoop]
  | c :: x, st, i => by
    by_cases hc : hasC enc c = true
    · rw [encLoop_cons hc]
      have := encLoop_len (enc := enc) x (putC enc st c).2 (i + 1)
      have h2 := putC_len enc st c
      simp only [List.length_append, List.length_cons]
      omega
    · rw [encLoop_bad hc]; simp

/-- What the law CharsFit asks, of few characters. -/
theorem fit_law {enc most more : Int} (he : encOk enc) {l : List Int} (hl : ∀ c ∈ l, 0 ≤ c) (hn : l.length ≤ 300) (h0 : 0 ≤ most) (hm : most ≤ more) :
    ((fitC enc l most).2.2 = 0 ∨ (fitC enc l most).2.2 = 15 ∧ (fitC enc l more).2.2 = 15) ∧
    ((fitC enc l most).2.2 = 0 → (fitC enc l more).2.2 = 0 → ∃ (a t b : List Int), l = a ++ t ∧ fitC enc l most = (b, (a.length : Int), 0) ∧ (b.length : Int) ≤ most ∧ ((fitC enc l more).1.length : Int) ≤ more ∧ (a.length : Int) ≤ (fitC enc l more).2.1 ∧
      decodeC enc b = (a, 0, 0) ∧ (t = [] → encodeC enc l = (b, 0, 0)) ∧ (∀ c t', t = c :: t' → ∃ x, encodeC enc (a ++ [c]) = (x, 0, 0) ∧ most < (x.length : Int))) := by
  have e1 : ∀ q, 0 ≤ q → fitC enc l q = fitLoop enc q 0 [] [] 0 l := fun q hq => by
    unfold fitC
    rw [if_neg (by simpa using he), if_neg (by omega), if_neg (by omega)]
  rw [e1 most h0, e1 more (by omega)]
  have hmono := fit_mono hm l [] [] 0 0 (enc := enc)
  refine ⟨hmono.1, fun q1 q2 => ?_⟩
  have s1 := fit_spec (enc := enc) (most := most) l [] [] 0 rfl (by simpa [turnC] using h0)
  have s2 := fit_spec (enc := enc) (most := more) l [] [] 0 rfl (by simp [turnC]; omega)
  simp only [turnC, if_true, List.append_nil, List.length_nil, List.nil_append] at s1 s2
  have hmk := hmono.2 q1 q2
  rcases s1 with s1 | ⟨a, t, lg, st, hlt, u1, u2, u3, u4⟩
  · rw [s1] at q1; simp at q1
  rcases s2 with s2 | ⟨a', t', lg', st', hlt', v1, v2, v3, v4⟩
  · rw [s2] at q2; simp at q2
  simp only [List.nil_append] at u1 u2 v1 v2
  rw [u2, v2] at hmk
  have hla : a.length ≤ 300 := by rw [hlt] at hn; simp at hn; omega
  have hlen := encLoop_len (enc := enc) a 0 0
  rw [u1] at hlen
  have ht := turnC_len2 st 0
  have hE : encodedC enc a = (lg ++ turnC st 0, 0, 0) := by
    unfold encodedC
    rw [u1]
    simp only
    rw [if_neg (by rw [List.length_append]; simp only at hlen; omega)]
  refine ⟨a, t, lg ++ turnC st 0, hlt, u2, u3, by rw [v2]; exact v3, by rw [v2]; exact hmk, (dec_of_enc he (fun c hc => hl c (by rw [hlt]; simp [hc])) hE rfl).1, fun h => ?_, fun c t2 h => ?_⟩
  · rw [encode_eq he (by omega), hlt, h, List.append_nil]; exact hE
  · rcases u4 with u4 | ⟨c2, t3, h2, h3, h4⟩
    · rw [u4] at h; simp at h
    · obtain ⟨rfl, rfl⟩ : c2 = c ∧ t3 = t2 := by rw [h2] at h; simpa using h
      have hs := encLoop_snoc h3 a 0 0 lg st u1
      have ht2 := turnC_len2 (putC enc st c2).2 0
      have hp := putC_len enc st c2
      refine ⟨_, ?_, h4⟩
      rw [encode_eq he (by simp; omega)]
      unfold encodedC
      rw [hs]
      simp only
      rw [if_neg (by simp only [List.length_append] at hlen ⊢; omega)]
end Go.Proofs.Ytcekghcejmhhaaa

/- Plain laws of the layer 'chars', 5: first ones and all; where an error lies. No Go here. -/
namespace Go.Proofs.Ytcekghcejmhhaaa

/-! What the first bytes say. -/
theorem nextU_c {x : Int} {t : List Int} : nextU (x :: t) = if x < 128 then ⟨1, x, 1, 0⟩
    else if 194 ≤ x ∧ x ≤ 223 then restS 2 1 (x % 32) 128 191 t
    else if 224 ≤ x ∧ x ≤ 224 then restS 3 2 (x % 16) 160 191 t
    else if 225 ≤ x ∧ x ≤ 236 then restS 3 2 (x % 16) 128 191 t
    else if 237 ≤ x ∧ x ≤ 237 then restS 3 2 (x % 16) 128 159 t
    else if 238 ≤ x ∧ x ≤ 239 then restS 3 2 (x % 16) 128 191 t
    else if 240 ≤ x ∧ x ≤ 240 then restS 4 3 (x % 8) 144 191 t
    else if 241 ≤ x ∧ x ≤ 243 then restS 4 3 (x % 8) 128 191 t
    else if 244 ≤ x ∧ x ≤ 244 then restS 4 3 (x % 8) 128 143 t
    else .bad := rfl
theorem restS_more {n : Int} : ∀ (r : Nat) (c lo hi : Int) (p q : List Int), (restS n r c lo hi p).kind ≠ 3 → restS n r c lo hi (p ++ q) = restS n r c lo hi p
  | 0, c, lo, hi, p, q, _ => by rw [restS, restS]
  | r + 1, c, lo, hi, [], q, h => by simp [restS, Step.part] at h
  | r + 1, c, lo, hi, x :: p, q, h => by
    rw [List.cons_append, restS, restS]
    rw [restS] at h
    split
    · rfl
    · split
      · rfl
      · rename_i h1 h2
        rw [if_neg h1, if_neg h2] at h
        exact restS_more r _ _ _ p q h
theorem restS_cut {n : Int} : ∀ (r : Nat) (c lo hi : Int) (p q : List Int), r ≤ p.length → restS n r c lo hi (p ++ q) = restS n r c lo hi p
  | 0, c, lo, hi, p, q, _ => by rw [restS, restS]
  | r + 1, c, lo, hi, [], q, h => by simp at h
  | r + 1, c, lo, hi, x :: p, q, h => by
    rw [List.cons_append, restS, restS]
    split
    · rfl
    · split
      · rfl
      · exact restS_cut r _ _ _ p q (by simpa using h)
theorem restS_one {n : Int} : ∀ (r : Nat) (c lo hi : Int) (p : List Int), (restS n r c lo hi p).kind = 1 → (restS n r c lo hi p).bytes = n ∧ r ≤ p.length
  | 0, c, lo, hi, p, _ => by rw [restS]; simp
  | r + 1, c, lo, hi, [], h => by simp [restS, Step.part] at h
  | r + 1, c, lo, hi, x :: p, h => by
    rw [restS] at h ⊢
    split
    · rename_i h1; rw [if_pos h1] at h; simp [Step.bad] at h
    · rename_i h1
      rw [if_neg h1] at h
      split
      · rename_i h2; rw [if_pos h2] at h; simp [Step.bad] at h
      · rename_i h2
        rw [if_neg h2] at h
        have := restS_one r _ _ _ p h
        exact ⟨this.1, by simp; exact this.2⟩
/-- The three kinds. -/
def Kind3 (S : Step) (len : Int) : Prop := (S.kind = 1 ∧ 0 < S.bytes ∧ S.bytes ≤ len) ∨ S = .bad ∨ S = .part
theorem restS_kind {n : Int} (hn : 0 < n) : ∀ (r : Nat) (c lo hi : Int) (p : List Int), Kind3 (restS n r c lo hi p) (n + p.length - r)
  | 0, c, lo, hi, p => by rw [restS]; exact .inl ⟨rfl, hn, by dsimp only; omega⟩
  | r + 1, c, lo, hi, [] => by rw [restS]; exact .inr (.inr rfl)
  | r + 1, c, lo, hi, x :: p => by
    rw [restS]
    split
    · exact .inr (.inl rfl)
    · split
      · exact .inr (.inl rfl)
      · have := restS_kind hn r (c * 64 + x % 64) 128 191 p
        have e : n + ((x :: p).length : Int) - ((r + 1 : Nat) : Int) = n + p.length - r := by simp; omega
        rw [e]
        exact this
theorem Kind3.ite {c : Prop} [Decidable c] {a b : Step} {n : Int} (h1 : Kind3 a n) (h2 : Kind3 b n) : Kind3 (if c then a else b) n := by split <;> assumption
theorem nextU_kind (b : List Int) : Kind3 (nextU b) b.length := by
  cases b with
  | nil => exact .inr (.inr rfl)
  | cons x t =>
    rw [nextU_c]
    have k2 : ∀ lo hi, Kind3 (restS 2 1 (x % 32) lo hi t) ((x :: t).length : Int) := fun lo hi => by
      have := restS_kind (n := 2) (by omega) 1 (x % 32) lo hi t
      have e : (2 : Int) + (t.length : Int) - ((1 : Nat) : Int) = ((x :: t).length : Int) := by simp; omega
      rwa [e] at this
    have k3 : ∀ lo hi, Kind3 (restS 3 2 (x % 16) lo hi t) ((x :: t).length : Int) := fun lo hi => by
      have := restS_kind (n := 3) (by omega) 2 (x % 16) lo hi t
      have e : (3 : Int) + (t.length : Int) - ((2 : Nat) : Int) = ((x :: t).length : Int) := by simp; omega
      rwa [e] at this
    have k4 : ∀ lo hi, Kind3 (restS 4 3 (x % 8) lo hi t) ((x :: t).length : Int) := fun lo hi => by
      have := restS_kind (n := 4) (by omega) 3 (x % 8) lo hi t
      have e : (4 : Int) + (t.length : Int) - ((3 : Nat) : Int) = ((x :: t).length : Int) := by simp; omega
      rwa [e] at this
    exact .ite (.inl ⟨rfl, by dsimp only; omega, by dsimp only; simp; omega⟩) (.ite (k2 _ _) (.ite (k3 _ _) (.ite (k3 _ _) (.ite (k3 _ _) (.ite (k3 _ _) (.ite (k4 _ _) (.ite (k4 _ _) (.ite (k4 _ _) (.inr (.inl rfl))))))))))
theorem nextS_kind : ∀ (b : List Int) (n s : Int), 0 ≤ n → Kind3 (nextS n s b) (n + b.length)
  | [], n, s, _ => .inr (.inr rfl)
  | x :: t, n, s, hn => by
    by_cases h1 : x = 14
    · subst h1
      rw [nextS_o]
      have := nextS_kind t (n + 1) 1 (by omega)
      have e : n + 1 + (t.length : Int) = n + (((14 : Int) :: t).length : Int) := by simp; omega
      rwa [e] at this
    · by_cases h2 : x = 15
      · subst h2
        rw [nextS_i]
        have := nextS_kind t (n + 1) 0 (by omega)
        have e : n + 1 + (t.length : Int) = n + (((15 : Int) :: t).length : Int) := by simp; omega
        rwa [e] at this
      · rw [nextS_c h1 h2]
        refine .ite (.ite (.inr (.inl rfl)) (.inl ⟨rfl, by dsimp only; omega, by dsimp only; simp; omega⟩)) (.ite (.inr (.inl rfl)) ?_)
        cases t with
        | nil => exact .inr (.inr rfl)
        | cons y t' => exact .ite (.inr (.inl rfl)) (.inl ⟨rfl, by dsimp only; omega, by dsimp only; simp; omega⟩)
theorem next_kind (enc st : Int) (b : List Int) : Kind3 (nextC enc st b) b.length := by
  unfold nextC
  refine .ite ?_ (.ite (nextU_kind b) ?_)
  · cases b with
    | nil => exact .inr (.inr rfl)
    | cons x t => exact .inl ⟨rfl, by show (0 : Int) < 1; omega, by show (1 : Int) ≤ _; simp; omega⟩
  · have := nextS_kind b 0 st (by omega)
    rwa [Int.zero_add] at this

theorem nextU_more (p q : List Int) (h : (nextU p).kind ≠ 3) : nextU (p ++ q) = nextU p := by
  cases p with
  | nil => simp [nextU, Step.part] at h
  | cons x t =>
    rw [List.cons_append, nextU_c, nextU_c]
    rw [nextU_c] at h
    split <;> rename_i h1
    · rfl
    · rw [if_neg h1] at h
      repeat' (split; · rename_i h2; rw [if_pos h2] at h; exact restS_more _ _ _ _ _ _ h) <;> (rename_i h2; rw [if_neg h2] at h)
theorem nextS_more : ∀ (p q : List Int) (n s : Int), (nextS n s p).kind ≠ 3 → nextS n s (p ++ q) = nextS n s p
  | [], q, n, s, h => by simp [nextS, Step.part] at h
  | x :: t, q, n, s, h => by
    by_cases h1 : x = 14
    · subst h1
      rw [List.cons_append, nextS_o, nextS_o]
      rw [nextS_o] at h
      exact nextS_more t q _ _ h
    · by_cases h2 : x = 15
      · subst h2
        rw [List.cons_append, nextS_i, nextS_i]
        rw [nextS_i] at h
        exact nextS_more t q _ _ h
      · rw [List.cons_append, nextS_c h1 h2, nextS_c h1 h2]
        rw [nextS_c h1 h2] at h
        split
        · rfl
        · rename_i h3
          rw [if_neg h3] at h
          split
          · rfl
          · rename_i h4
            rw [if_neg h4] at h
            cases t with
            | nil => simp [Step.part] at h
            | cons y t' => rfl
/-- What the first ones say, if they say something, all say. -/
theorem next_more (enc st : Int) (p q : List Int) (h : (nextC enc st p).kind ≠ 3) : nextC enc st (p ++ q) = nextC enc st p := by
  unfold nextC at h ⊢
  split
  · rename_i h1
    rw [if_pos h1] at h
    cases p with
    | nil => simp [nextO, Step.part] at h
    | cons x t => rfl
  · rename_i h1
    rw [if_neg h1] at h
    split
    · rename_i h2; rw [if_pos h2] at h; exact nextU_more p q h
    · rename_i h2; rw [if_neg h2] at h; exact nextS_more p q 0 st h

theorem nextU_cut (p q : List Int) (h : (nextU (p ++ q)).kind = 1) (hb : (nextU (p ++ q)).bytes ≤ p.length) : nextU p = nextU (p ++ q) := by
  cases p with
  | nil =>
    rcases nextU_kind q with ⟨_, h0, _⟩ | h0 | h0
    · simp only [List.nil_append, List.length_nil] at hb; omega
    · rw [List.nil_append, h0] at h; simp [Step.bad] at h
    · rw [List.nil_append, h0] at h; simp [Step.part] at h
  | cons x t =>
    rw [List.cons_append] at h hb ⊢
    simp only [List.length_cons] at hb
    rw [nextU_c] at h hb ⊢
    rw [nextU_c]
    split <;> rename_i h1
    · rfl
    · rw [if_neg h1] at h hb
      repeat' (split; · rename_i h2; rw [if_pos h2] at h hb; have := (restS_one _ _ _ _ _ h).1; exact (restS_cut _ _ _ _ _ _ (by omega)).symm) <;> (rename_i h2; rw [if_neg h2] at h hb)
theorem nextS_cut : ∀ (p q : List Int) (n s : Int), 0 ≤ n → (nextS n s (p ++ q)).kind = 1 → (nextS n s (p ++ q)).bytes ≤ n + p.length → nextS n s p = nextS n s (p ++ q)
  | [], q, n, s, hn, h, hb => by
    have big : ∀ (q : List Int) (n s : Int), (nextS n s q).kind = 1 → n < (nextS n s q).bytes := by
      intro q
      induction q with
      | nil => intro n s h; simp [nextS, Step.part] at h
      | cons x t ih =>
        intro n s h
        by_cases h1 : x = 14
        · subst h1; rw [nextS_o] at h ⊢; have := ih _ _ h; omega
        · by_cases h2 : x = 15
          · subst h2; rw [nextS_i] at h ⊢; have := ih _ _ h; omega
          · rw [nextS_c h1 h2] at h ⊢
            split
            · rename_i h3
              rw [if_pos h3] at h
              split
              · rename_i h4; rw [if_pos h4] at h; simp [Step.bad] at h
              · dsimp only; omega
            · rename_i h3
              rw [if_neg h3] at h
              split
              · rename_i h4; rw [if_pos h4] at h; simp [Step.bad] at h
              · rename_i h4
                rw [if_neg h4] at h
                cases t with
                | nil => simp [Step.part] at h
                | cons y t' =>
                  simp only at h ⊢
                  split
                  · rename_i h5; rw [if_pos h5] at h; simp [Step.bad] at h
                  · dsimp only; omega
    have := big q n s (by simpa using h)
    simp only [List.nil_append, List.length_nil] at hb
    omega
  | x :: t, q, n, s, hn, h, hb => by
    by_cases h1 : x = 14
    · subst h1
      rw [List.cons_append, nextS_o] at h hb ⊢
      rw [nextS_o]
      exact nextS_cut t q _ _ (by omega) h (by simp only [List.length_cons] at hb; omega)
    · by_cases h2 : x = 15
      · subst h2
        rw [List.cons_append, nextS_i] at h hb ⊢
        rw [nextS_i]
        exact nextS_cut t q _ _ (by omega) h (by simp only [List.length_cons] at hb; omega)
      · rw [List.cons_append, nextS_c h1 h2] at h hb ⊢
        rw [nextS_c h1 h2]
        split
        · rfl
        · rename_i h3
          rw [if_neg h3] at h hb
          split
          · rfl
          · rename_i h4
            rw [if_neg h4] at h hb
            cases t with
            | nil =>
              cases q with
              | nil => rfl
              | cons y q' =>
                simp only [List.nil_append] at h hb
                split at h
                · simp [Step.bad] at h
                · rename_i h5
                  rw [if_neg h5] at hb
                  simp at hb
            | cons y t' => rfl
theorem next_cut (enc st : Int) (p q : List Int) (h : (nextC enc st (p ++ q)).kind = 1) (hb : (nextC enc st (p ++ q)).bytes ≤ p.length) : nextC enc st p = nextC enc st (p ++ q) := by
  unfold nextC at h hb ⊢
  split
  · rename_i h1
    rw [if_pos h1] at h hb
    cases p with
    | nil =>
      cases q with
      | nil => rfl
      | cons y q' => simp [nextO] at hb
    | cons x t => rfl
  · rename_i h1
    rw [if_neg h1] at h hb
    split
    · rename_i h2; rw [if_pos h2] at h hb; exact nextU_cut p q h hb
    · rename_i h2; rw [if_neg h2] at h hb; exact nextS_cut p q 0 st (by omega) h (by omega)

/-! Where an error lies. -/
/-- The state behind bytes that are read. -/
def stateLoop (enc : Int) : Nat → Int → List Int → Int
  | 0, st, _ => st
  | f + 1, st, b => if b = [] then st else if (nextC enc st b).kind = 1 then stateLoop enc f (nextC enc st b).st (b.drop (nextC enc st b).bytes.toNat) else st
theorem stateLoop_nil {enc st : Int} {f : Nat} : stateLoop enc f st [] = st := by cases f <;> simp [stateLoop]

theorem passed_kind {enc st : Int} (he : encOk enc) {b : List Int} (h : passedC enc b = true) : (nextC enc st b).kind = 3 := by
  unfold passedC at h
  split at h
  · rename_i h3
    subst h3
    have : ∀ (b : List Int) (n s : Int), b.all (fun x => decide (x = 14 ∨ x = 15)) = true → (nextS n s b).kind = 3 := by
      intro b
      induction b with
      | nil => intro n s _; rfl
      | cons x t ih =>
        intro n s h
        simp only [List.all_cons, Bool.and_eq_true, decide_eq_true_eq] at h
        rcases h.1 with rfl | rfl
        · rw [nextS_o]; exact ih _ _ h.2
        · rw [nextS_i]; exact ih _ _ h.2
    unfold nextC
    rw [if_neg (by decide), if_neg (by decide)]
    exact this b _ _ h
  · have hb : b = [] := by simpa using h
    subst hb
    unfold nextC
    split
    · rfl
    · split <;> rfl

theorem err_at {enc : Int} (he : encOk enc) : ∀ (f : Nat) (st a : Int) (b : List Int) (os : List (Int × Int)) (e : Int), stC enc st → (¬ enc = 3 → st = 0) → (∀ x ∈ b, 0 ≤ x ∧ x ≤ 255) → b.length ≤ f → decodeLoop enc f st a b = (os, some e) →
    ∃ m : Nat, e = a + m ∧ m < b.length ∧ ∀ g, m ≤ g → decodeLoop enc g st a (b.take m) = (os, none) ∧ stC enc (stateLoop enc g st (b.take m)) ∧ (¬ enc = 3 → stateLoop enc g st (b.take m) = 0) ∧ (nextC enc (stateLoop enc g st (b.take m)) (b.drop m)).kind ≠ 1
  | 0, st, a, b, os, e, hs, hz, hb, hf, h => by simp [decodeLoop] at h
  | f + 1, st, a, b, os, e, hs, hz, hb, hf, h => by
    rw [decodeLoop_unfold] at h
    split at h
    · simp at h
    · rename_i hp
      split at h
      · rename_i hk
        obtain ⟨S, hS⟩ : ∃ S, S = nextC enc st b := ⟨_, rfl⟩
        rw [← hS] at h hk
        have hkd := next_kind enc st b
        rw [← hS] at hkd
        obtain ⟨_, h0, hle⟩ : S.kind = 1 ∧ 0 < S.bytes ∧ S.bytes ≤ b.length := by
          rcases hkd with h | h | h
          · exact h
          · rw [h] at hk; simp [Step.bad] at hk
          · rw [h] at hk; simp [Step.part] at hk
        obtain ⟨h1, h2⟩ := Prod.mk.inj h
        have hst := next_st he hs hb (hS ▸ hk)
        rw [← hS] at hst
        obtain ⟨m, e1, e2, e3⟩ := err_at he f S.st (a + S.bytes) (b.drop S.bytes.toNat) _ e hst.1 hst.2 (fun x hx => hb x (List.mem_of_mem_drop hx)) (by rw [List.length_drop]; omega) (Prod.ext rfl h2)
        rw [List.length_drop] at e2
        refine ⟨S.bytes.toNat + m, by rw [e1]; push_cast; omega, by omega, fun g hg => ?_⟩
        obtain ⟨g, rfl⟩ : ∃ g', g = g' + 1 := ⟨g - 1, by omega⟩
        have hcut : nextC enc st (b.take (S.bytes.toNat + m)) = S := by
          have := next_cut enc st (b.take (S.bytes.toNat + m)) (b.drop (S.bytes.toNat + m)) (by rw [List.take_append_drop, ← hS]; exact hk) (by rw [List.take_append_drop, ← hS, List.length_take]; omega)
          rw [this, List.take_append_drop, hS]
        have hnp : ¬ passedC enc (b.take (S.bytes.toNat + m)) = true := fun hp2 => by
          have := passed_kind (st := st) he hp2
          rw [hcut] at this
          omega
        have hne : ¬ b.take (S.bytes.toNat + m) = [] := fun h => by
          have := congrArg List.length h
          rw [List.length_take, List.length_nil] at this
          omega
        have hdt : (b.take (S.bytes.toNat + m)).drop S.bytes.toNat = (b.drop S.bytes.toNat).take m := by rw [List.drop_take]; congr 1; omega
        obtain ⟨e4, e5, e7, e6⟩ := e3 g (by omega)
        refine ⟨?_, ?_, ?_, ?_⟩
        · rw [decodeLoop_unfold, if_neg hnp, hcut, if_pos hk, hdt, e4, ← h1]
        · rw [stateLoop, if_neg hne, hcut, if_pos hk, hdt]; exact e5
        · rw [stateLoop, if_neg hne, hcut, if_pos hk, hdt]; exact e7
        · rw [stateLoop, if_neg hne, hcut, if_pos hk, hdt, ← List.drop_drop]; exact e6
      · rename_i hk
        simp only [Prod.mk.injEq, Option.some.injEq] at h
        obtain ⟨rfl, rfl⟩ := h
        have hne : b ≠ [] := fun h => hp (by subst h; unfold passedC; split <;> rfl)
        refine ⟨0, by simp, by cases b with | nil => exact absurd rfl hne | cons _ _ => simp, fun g _ => ?_⟩
        rw [List.take_zero, List.drop_zero, stateLoop_nil]
        refine ⟨?_, hs, hz, hk⟩
        exact decodeLoop_end (by unfold passedC; split <;> rfl)

/-- What the law CharsErrors asks. -/
theorem err_law {enc : Int} (he : encOk enc) {b : List Int} (hb : ∀ x ∈ b, 0 ≤ x ∧ x ≤ 255) (hn : b.length ≤ 20000) (h0 : (decodeC enc b).2.1 ≠ 0) :
    ∃ m : Nat, decodeC enc b = ([], 15, (m : Int)) ∧ m < b.length ∧ (decodeC enc (b.take m)).2.1 = 0 ∧ ∃ st, st = stateLoop enc m 0 (b.take m) ∧ stC enc st ∧ (¬ enc = 3 → st = 0) ∧ (nextC enc st (b.drop m)).kind ≠ 1 := by
  obtain ⟨os, o, hR⟩ : ∃ os o, decodeLoop enc b.length 0 0 b = (os, o) := ⟨_, _, rfl⟩
  have hD : ∀ o', o' = o → decodeC enc b = (match o' with | none => (os.map (·.2), 0, 0) | some a => ([], 15, a)) := by
    rintro o' rfl
    unfold decodeC
    rw [if_neg (by simpa using he), if_neg (by omega)]
    simp only [hR]
    all_goals (cases o' <;> rfl)
  cases o with
  | none => rw [hD _ rfl] at h0; simp at h0
  | some e =>
    obtain ⟨m, e1, e2, e3⟩ := err_at he b.length 0 0 b os e (fun _ => .inl rfl) (fun _ => rfl) hb (Nat.le_refl _) hR
    obtain ⟨q1, q2, q4, q3⟩ := e3 m (Nat.le_refl _)
    refine ⟨m, by rw [hD _ rfl]; simp [e1], e2, ?_, _, rfl, q2, q4, q3⟩
    unfold decodeC
    rw [if_neg (by simpa using he), if_neg (by rw [List.length_take]; omega)]
    dsimp only
    rw [show (b.take m).length = m by rw [List.length_take]; omega, q1]
end Go.Proofs.Ytcekghcejmhhaaa

namespace Go.Proofs.Ytcekghcejmhhaaa
open Go.RowKit Go.Proofs.YtcekghcejmhhaaaW.PrintWords Go.Proofs.YtcekghcejmhhaaaW.PrintLast Go.Proofs.YtcekghcejmhhaaaW.PrintMore
set_option maxRecDepth 100000

theorem Encode_at (enc : Int) (l b : List Int) (e a : Int) (hE : encodeC enc l = (b, e, a)) (A : Option Addr) (n c : Nat) (w : World) (hC : Kd.C (Kd.int .u32) w A n l) (hx : U32s l) :
    Calls Try.prog 14 #[.int .i64 enc, .slice A n c] w fun r w' => ∃ A' c', r = .returned (.tuple #[.slice A' b.length c', .int .i64 e, .int .i64 a]) ∧ Kd.C (Kd.int .u8) w' A' b.length b ∧ b.length ≤ c' ∧ Below w.heap.size w w' :=
  (Encode_any enc A n c l w hC hx).mono fun r w' ⟨v, hr, hv, hb⟩ => by
    rw [hE] at hr hv
    obtain ⟨A', c', rfl, h0, h⟩ := Kd.R_reads hv
    exact ⟨A', c', hr, h, h0, hb⟩

theorem encLoop_byt {enc : Int} (he : encOk enc) : ∀ (l : List Int) (st i : Int), (∀ c ∈ l, 0 ≤ c) → ∀ x ∈ (encLoop enc st i l).1, 0 ≤ x ∧ x ≤ 255
  | [], st, i, _ => by simp [encLoop]
  | c :: l, st, i, h => by
    by_cases hh : hasC enc c = true
    · rw [encLoop_cons hh]
      intro x hx
      rcases List.mem_append.1 hx with hx | hx
      · have hc := h c (by simp)
        have : enc = 1 ∨ enc = 2 ∨ enc = 3 := by unfold encOk at he; omega
        have ht : ∀ f t, ∀ y ∈ turnC f t, 0 ≤ y ∧ y ≤ 255 := by
          intro f t y hy
          unfold turnC at hy
          split at hy
          · simp at hy
          · split at hy <;> (simp at hy; omega)
        rcases this with rfl | rfl | rfl
        · simp [putC] at hx; omega
        · have hc2 : c < 55296 ∨ 57343 < c ∧ c ≤ 1114111 := by simpa [hasC] using hh
          by_cases k1 : c < 128
          · rw [put2_1 k1] at hx; simp at hx; omega
          · by_cases k2 : c < 2048
            · rw [put2_2 k1 k2] at hx; simp at hx; omega
            · by_cases k3 : c < 65536
              · rw [put2_3 k2 k3] at hx; simp at hx; omega
              · rw [put2_4 k3] at hx; simp at hx; omega
        · have hc2 : c ≤ 127 ∧ c ≠ 14 ∧ c ≠ 15 ∨ 19968 ≤ c ∧ c ≤ 28803 := by simpa [hasC] using hh
          unfold putC at hx
          rw [if_neg (by decide), if_neg (by decide)] at hx
          split at hx
          · rcases List.mem_append.1 hx with hx | hx
            · exact ht _ _ x hx
            · simp at hx; omega
          · rcases List.mem_append.1 hx with hx | hx
            · exact ht _ _ x hx
            · simp at hx; omega
      · exact encLoop_byt he l _ _ (fun y hy => h y (by simp [hy])) x hx
    · rw [encLoop_bad hh]; simp
theorem encode_byt {enc : Int} {l : List Int} (h : ∀ c ∈ l, 0 ≤ c) : Byt (encodeC enc l).1 := by
  apply Byt.of
  unfold encodeC
  split
  · simp
  · rename_i he
    split
    · simp
    · unfold encodedC
      dsimp only
      split
      · simp
      · split
        · simp
        · intro x hx
          rcases List.mem_append.1 hx with hx | hx
          · exact encLoop_byt (by simpa using he) l 0 0 h x hx
          · unfold turnC at hx
            split at hx
            · simp at hx
            · split at hx <;> (simp at hx; omega)
theorem U32s.mem {l : List Int} (h : U32s l) : ∀ c ∈ l, 0 ≤ c ∧ c < 4294967296 := fun c hc => by
  obtain ⟨i, hi, rfl⟩ := List.mem_iff_getElem.1 hc
  have := h i
  rw [List.getD_eq_getElem?_getD, List.getElem?_eq_getElem hi] at this
  exact this
theorem Byt.mem {l : List Int} (h : Byt l) : ∀ c ∈ l, 0 ≤ c ∧ c ≤ 255 := fun c hc => by
  obtain ⟨i, hi, rfl⟩ := List.mem_iff_getElem.1 hc
  have := h i
  rw [List.getD_eq_getElem?_getD, List.getElem?_eq_getElem hi] at this
  exact this
theorem has_u32 {enc c : Int} (h : hasC enc c = true) : c < 4294967296 := by
  unfold hasC at h
  split at h
  · simp at h; omega
  · split at h
    · simp at h; omega
    · simp at h; omega
theorem dec_u32 {enc : Int} (he : encOk enc) {b : List Int} (hb : ∀ x ∈ b, 0 ≤ x ∧ x ≤ 255) : ∀ (f : Nat) (st a : Int) (k : List Int), stC enc st → (∀ x ∈ k, 0 ≤ x ∧ x ≤ 255) → ∀ c ∈ (decodeLoop enc f st a k).1.map (·.2), 0 ≤ c ∧ c < 4294967296
  | 0, st, a, k, hs, hk, c, hc => by simp [decodeLoop] at hc
  | f + 1, st, a, k, hs, hk, c, hc => by
    rw [decodeLoop_unfold] at hc
    split at hc
    · simp at hc
    · split at hc
      · rename_i hkd
        have hn := put_next he hs hk hkd
        rw [List.map_cons] at hc
        rcases List.mem_cons.1 hc with rfl | hc
        · exact ⟨hn.ch, has_u32 hn.has⟩
        · exact dec_u32 he hb f _ _ _ (next_st he hs hk hkd).1 (fun x hx => hk x (List.mem_of_mem_drop hx)) c hc
      · simp at hc
theorem decode_u32 {enc : Int} (he : encOk enc) {b : List Int} (hb : ∀ x ∈ b, 0 ≤ x ∧ x ≤ 255) : U32s (decodeC enc b).1 := by
  apply U32s.of
  unfold decodeC
  rw [if_neg (by simpa using he)]
  split
  · simp
  · dsimp only
    split
    · exact dec_u32 he hb _ _ _ _ (fun _ => .inl rfl) hb
    · simp

set_option maxHeartbeats 4000000 in
theorem back_long (x : Int) (A : Option Addr) (n c : Nat) (B : Option Addr) (m d : Nat) (w : World) (h : 4000 < n ∨ 2000 < m) :
    Calls Try.prog 4 #[.int .u8 x, .slice A n c, .slice B m d] w fun r w' => r = .returned (.bool true) ∧ Below w.heap.size w w' := by
  by_cases h1 : 4000 < n
  · have h2 : (4000 : Int) < n := by omega
    clear h
    go_enter Try.func4, Try.ntmps4
    go_wp2_with (go_at_call 13; (with_reducible refine (sanity_ok _).mono ?_); rintro e w1 ⟨rfl, hb1⟩)
    go_ret
    exact ⟨rfl, hb1⟩
  · have h2 : (n : Int) ≤ 4000 := by omega
    have h3 : (2000 : Int) < m := by omega
    clear h
    go_enter Try.func4, Try.ntmps4
    go_wp2_with (go_at_call 13; (with_reducible refine (sanity_ok _).mono ?_); rintro e w1 ⟨rfl, hb1⟩)
    go_ret
    exact ⟨rfl, hb1⟩
end Go.Proofs.Ytcekghcejmhhaaa
