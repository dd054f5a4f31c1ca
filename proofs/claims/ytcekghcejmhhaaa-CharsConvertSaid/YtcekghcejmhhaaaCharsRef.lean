/- The specification's reader of characters, as the printer tells it, and the program's: they say the same of all bytes. -/
import Derived.Test.YtcekghcejmhhaaaXBaseDx7
import Derived.Test.YtcekghcejmhhaaaCharsLawF
set_option linter.unusedSimpArgs false
set_option linter.unusedVariables false
set_option linter.unnecessarySimpa false
namespace Go.Proofs.Ytcekghcejmhhaaa.Ref
open Go.RowKit Go.Proofs.Ytcekghcejmhhaaa.XBaseD Go.Proofs.YtcekghcejmhhaaaW.PrintWords Go.Proofs.YtcekghcejmhhaaaW.PrintLast Go.Proofs.YtcekghcejmhhaaaW.PrintMore Go.Proofs.Ytcekghcejmhhaaa

/-- A step's parts. -/
def T (S : Step) : Int × Int × Int × Int := (S.kind, S.ch, S.bytes, S.st)

/-! UTF-8. -/
/-- What is said at the end. -/
def fin (len n least low high : Int) : Int × Int × Int × Int :=
  if mx low least > mn high 1114111 then (2, 0, 0, 0) else if mx low least ≥ 55296 ∧ mn high 1114111 ≤ 57343 then (2, 0, 0, 0) else if len < n then (3, 0, 0, 0) else (1, mx low least, n, 0)
theorem l0_end {k : Nat} {b : List Int} {n least low high i : Int} (h : ¬ i < n) : sorobanref18_utf.l0 (k + 2) b n least low high i = some (fin b.length n least low high) := by
  rw [sorobanref18_utf.l0, if_neg h]
  unfold fin
  by_cases h1 : mx low least > mn high 1114111
  · rw [if_pos h1, if_pos h1, sorobanref18_utf.j2, if_pos rfl]
  · rw [if_neg h1, if_neg h1]
    by_cases h2 : mx low least ≥ 55296
    · rw [if_pos h2]
      by_cases h3 : mn high 1114111 ≤ 57343
      · rw [if_pos ⟨h2, h3⟩, sorobanref18_utf.j2, if_pos (by simpa using h3)]
      · rw [if_neg (fun h => h3 h.2), sorobanref18_utf.j2, if_neg (by simpa using h3)]
        split <;> rfl
    · rw [if_neg h2, if_neg (fun h => h2 h.1), sorobanref18_utf.j2, if_neg (by decide)]
      split <;> rfl
theorem wrap_i {i : Int} (h0 : 0 ≤ i) (h : i ≤ 100) : wrap64 (i + 1) = i + 1 := by unfold wrap64; omega
theorem l0_miss {k : Nat} {b : List Int} {n least low high i : Int} (h : i < n) (h0 : 0 ≤ i) (h9 : i ≤ 100) (hl : i ≥ (b.length : Int)) (hb : 0 ≤ low ∧ low ≤ high ∧ high < 67108000) :
    sorobanref18_utf.l0 (k + 1) b n least low high i = sorobanref18_utf.l0 k b n least (low * 64) (high * 64 + 63) (i + 1) := by
  rw [sorobanref18_utf.l0, if_pos h, if_pos hl, wrap_i h0 h9, show (low * 64) % 4294967296 = low * 64 by omega, show ((high * 64) % 4294967296 + 63) % 4294967296 = high * 64 + 63 by omega]
theorem l0_bad {k : Nat} {b : List Int} {n least low high i : Int} (h : i < n) (h0 : 0 ≤ i) (hl : i < (b.length : Int)) (hy : rd b i < 128 ∨ 192 ≤ rd b i) :
    sorobanref18_utf.l0 (k + 1) b n least low high i = some (2, 0, 0, 0) := by
  rw [sorobanref18_utf.l0, if_pos h, if_neg (by omega), if_pos h0, if_pos hl]
  by_cases h1 : rd b i < 128
  · rw [if_pos h1]
  · rw [if_neg h1, if_pos (by omega)]
theorem l0_good {k : Nat} {b : List Int} {n least low high i y : Int} (h : i < n) (h0 : 0 ≤ i) (h9 : i ≤ 100) (hl : i < (b.length : Int)) (hr : rd b i = y) (hy : 128 ≤ y ∧ y < 192) (hb : 0 ≤ low ∧ low ≤ high ∧ high < 67108000) :
    sorobanref18_utf.l0 (k + 1) b n least low high i = sorobanref18_utf.l0 k b n least (low * 64 + y % 64) (high * 64 + y % 64) (i + 1) := by
  rw [sorobanref18_utf.l0, if_pos h, if_neg (by omega), if_pos h0, if_pos hl, hr, if_neg (by omega), if_neg (by omega), wrap_i h0 h9,
    show (((low * 64) % 4294967296) + ((y % 4294967296) % 64)) % 4294967296 = low * 64 + y % 64 by omega, show (((high * 64) % 4294967296) + ((y % 4294967296) % 64)) % 4294967296 = high * 64 + y % 64 by omega]

/-- After the first byte. -/
theorem utf_head {k : Nat} {x : Int} {t : List Int} (h0 : 0 ≤ x) (h1 : x ≤ 255) : sorobanref18_utf.f (k + 3) (x :: t) =
    if x < 128 then sorobanref18_utf.l0 (k + 2) (x :: t) 1 0 x x 1
    else if 192 ≤ x ∧ x < 224 then sorobanref18_utf.l0 (k + 2) (x :: t) 2 128 (x % 32) (x % 32) 1
    else if 224 ≤ x ∧ x < 240 then sorobanref18_utf.l0 (k + 2) (x :: t) 3 2048 (x % 16) (x % 16) 1
    else if 240 ≤ x ∧ x < 248 then sorobanref18_utf.l0 (k + 2) (x :: t) 4 65536 (x % 8) (x % 8) 1
    else some (2, 0, 0, 0) := by
  have hrd : rd (x :: t) 0 = x := rfl
  have hw : x % 4294967296 = x := by omega
  unfold sorobanref18_utf.f
  rw [if_pos (by simp), hrd, hw]
  unfold sorobanref18_long.f
  by_cases c1 : x < 128
  · rw [if_pos c1, if_pos c1, Option.bind_some]
    dsimp only
    rw [if_neg (by decide), if_neg (by decide), sorobanref18_utf.j0]
  · rw [if_neg c1, if_neg c1]
    by_cases c2 : x ≥ 192
    · rw [if_pos c2, sorobanref18_long.j0]
      by_cases c3 : x < 224
      · rw [if_pos (by simpa using c3), if_pos ⟨c2, c3⟩, Option.bind_some]
        dsimp only
        rw [if_neg (by decide), if_pos (by decide), show wrap64 (7 - 2) = 5 by unfold wrap64; omega, if_pos (by decide), show shl .u32 1 5 = 32 by rfl, if_neg (by decide), sorobanref18_utf.j0]
      · rw [if_neg (by simpa using c3), if_pos (show x ≥ 224 by omega), sorobanref18_long.j1, if_neg (show ¬ (192 ≤ x ∧ x < 224) by omega)]
        by_cases c4 : x < 240
        · rw [if_pos (by simpa using c4), if_pos (show 224 ≤ x ∧ x < 240 by omega), Option.bind_some]
          dsimp only
          rw [if_neg (by decide), if_pos (by decide), show wrap64 (7 - 3) = 4 by unfold wrap64; omega, if_pos (by decide), show shl .u32 1 4 = 16 by rfl, if_neg (by decide), sorobanref18_utf.j0]
        · rw [if_neg (by simpa using c4), if_pos (show x ≥ 240 by omega), if_neg (show ¬ (224 ≤ x ∧ x < 240) by omega)]
          by_cases c5 : x < 248
          · rw [if_pos c5, if_pos (show 240 ≤ x ∧ x < 248 by omega), Option.bind_some]
            dsimp only
            rw [if_neg (by decide), if_pos (by decide), show wrap64 (7 - 4) = 3 by unfold wrap64; omega, if_pos (by decide), show shl .u32 1 3 = 8 by rfl, if_neg (by decide), sorobanref18_utf.j0]
          · rw [if_neg c5, if_neg (show ¬ (240 ≤ x ∧ x < 248) by omega), Option.bind_some]
            dsimp only
            rw [if_pos rfl]
    · rw [if_neg c2, sorobanref18_long.j0, if_neg (by decide), if_neg (show ¬ x ≥ 224 by omega), sorobanref18_long.j1, if_neg (by decide), if_neg (show ¬ x ≥ 240 by omega), if_neg (show ¬ (192 ≤ x ∧ x < 224) by omega), if_neg (show ¬ (224 ≤ x ∧ x < 240) by omega), if_neg (show ¬ (240 ≤ x ∧ x < 248) by omega), Option.bind_some]
      dsimp only
      rw [if_pos rfl]

theorem rest0 {n c lo hi : Int} {t : List Int} : restS n 0 c lo hi t = ⟨1, c, n, 0⟩ := by rw [restS]
theorem restN {n c lo hi : Int} {r : Nat} : restS n (r + 1) c lo hi [] = .part := by rw [restS]
theorem restC {n c lo hi x : Int} {r : Nat} {t : List Int} : restS n (r + 1) c lo hi (x :: t) = if x < lo then .bad else if hi < x then .bad else restS n r (c * 64 + x % 64) 128 191 t := by rw [restS]

/-- Two bytes. -/
theorem utf2 {k : Nat} {x : Int} {t : List Int} (hx : 192 ≤ x ∧ x < 224) (ht : ∀ y ∈ t, 0 ≤ y ∧ y ≤ 255) : sorobanref18_utf.l0 (k + 4) (x :: t) 2 128 (x % 32) (x % 32) 1 = some (T (if 194 ≤ x then restS 2 1 (x % 32) 128 191 t else .bad)) := by
  cases t with
  | nil =>
    rw [l0_miss (by decide) (by decide) (by decide) (by simp) (by omega), l0_end (by decide), restN]
    congr 1
    unfold fin mx mn
    by_cases h : 194 ≤ x
    · rw [if_pos h]; simp only [T, Step.part, List.length_cons, List.length_nil]; (repeat' split) <;> first | rfl | (exfalso; omega)
    · rw [if_neg h]; simp only [T, Step.bad, List.length_cons, List.length_nil]; (repeat' split) <;> first | rfl | (exfalso; omega)
  | cons y t =>
    have hy := ht y (by simp)
    by_cases hg : 128 ≤ y ∧ y < 192
    · rw [l0_good (y := y) (by decide) (by decide) (by decide) (by simp; omega) rfl hg (by omega), l0_end (by decide), restC, if_neg (show ¬ y < 128 by omega), if_neg (show ¬ 191 < y by omega), rest0]
      congr 1
      unfold fin mx mn
      by_cases h : 194 ≤ x
      · rw [if_pos h]; simp only [T, List.length_cons]; (repeat' split) <;> first | rfl | (exfalso; omega)
      · rw [if_neg h]; simp only [T, Step.bad, List.length_cons]; (repeat' split) <;> first | rfl | (exfalso; omega)
    · rw [l0_bad (by decide) (by decide) (by simp; omega) (by show y < 128 ∨ 192 ≤ y; omega), restC]
      congr 1
      by_cases h : 194 ≤ x
      · rw [if_pos h]
        by_cases h2 : y < 128
        · rw [if_pos h2]; rfl
        · rw [if_neg h2, if_pos (by omega)]; rfl
      · rw [if_neg h]; rfl

/-- The range of the second byte, by the first one. -/
def lo3 (x : Int) : Int := if x = 224 then 160 else 128
def hi3 (x : Int) : Int := if x = 237 then 159 else 191
set_option maxHeartbeats 2000000 in
theorem utf3 {k : Nat} {x : Int} {t : List Int} (hx : 224 ≤ x ∧ x < 240) (ht : ∀ y ∈ t, 0 ≤ y ∧ y ≤ 255) : sorobanref18_utf.l0 (k + 5) (x :: t) 3 2048 (x % 16) (x % 16) 1 = some (T (restS 3 2 (x % 16) (lo3 x) (hi3 x) t)) := by
  unfold lo3 hi3
  cases t with
  | nil =>
    rw [l0_miss (by decide) (by decide) (by decide) (by simp) (by omega), l0_miss (by decide) (by decide) (by decide) (by simp) (by omega), l0_end (by decide), restN]
    congr 1
    unfold fin mx mn
    simp only [T, Step.part, List.length_cons, List.length_nil]; (repeat' split) <;> first | rfl | (exfalso; omega)
  | cons y t =>
    have hy := ht y (by simp)
    by_cases hg : 128 ≤ y ∧ y < 192
    · rw [l0_good (y := y) (by decide) (by decide) (by decide) (by simp; omega) rfl hg (by omega), restC]
      cases t with
      | nil =>
        rw [l0_miss (by decide) (by decide) (by decide) (by simp) (by omega), l0_end (by decide), restN]
        congr 1
        unfold fin mx mn
        simp only [T, Step.part, Step.bad, List.length_cons, List.length_nil]; (repeat' split) <;> first | rfl | (exfalso; omega)
      | cons z t =>
        have hz := ht z (by simp)
        by_cases hg2 : 128 ≤ z ∧ z < 192
        · rw [l0_good (y := z) (by decide) (by decide) (by decide) (by simp; omega) rfl hg2 (by omega), l0_end (by decide), restC, if_neg (show ¬ z < 128 by omega), if_neg (show ¬ 191 < z by omega), rest0]
          congr 1
          unfold fin mx mn
          simp only [T, Step.part, Step.bad, List.length_cons]; (repeat' split) <;> first | rfl | (exfalso; omega)
        · rw [l0_bad (by decide) (by decide) (by simp; omega) (by show z < 128 ∨ 192 ≤ z; omega), restC]
          congr 1
          simp only [T, Step.part, Step.bad]; (repeat' split) <;> first | rfl | (exfalso; omega)
    · rw [l0_bad (by decide) (by decide) (by simp; omega) (by show y < 128 ∨ 192 ≤ y; omega), restC]
      congr 1
      simp only [T, Step.part, Step.bad]; (repeat' split) <;> first | rfl | (exfalso; omega)

def lo4 (x : Int) : Int := if x = 240 then 144 else 128
def hi4 (x : Int) : Int := if x = 244 then 143 else 191
set_option maxHeartbeats 4000000 in
theorem utf4 {k : Nat} {x : Int} {t : List Int} (hx : 240 ≤ x ∧ x < 248) (ht : ∀ y ∈ t, 0 ≤ y ∧ y ≤ 255) : sorobanref18_utf.l0 (k + 6) (x :: t) 4 65536 (x % 8) (x % 8) 1 = some (T (if x ≤ 244 then restS 4 3 (x % 8) (lo4 x) (hi4 x) t else .bad)) := by
  unfold lo4 hi4
  cases t with
  | nil =>
    rw [l0_miss (by decide) (by decide) (by decide) (by simp) (by omega), l0_miss (by decide) (by decide) (by decide) (by simp) (by omega), l0_miss (by decide) (by decide) (by decide) (by simp) (by omega), l0_end (by decide), restN]
    congr 1
    unfold fin mx mn
    by_cases h : x ≤ 244
    · rw [if_pos h]; simp only [T, Step.part, List.length_cons, List.length_nil]; (repeat' split) <;> first | rfl | (exfalso; omega)
    · rw [if_neg h]; simp only [T, Step.bad, List.length_cons, List.length_nil]; (repeat' split) <;> first | rfl | (exfalso; omega)
  | cons y t =>
    have hy := ht y (by simp)
    by_cases hg : 128 ≤ y ∧ y < 192
    · rw [l0_good (y := y) (by decide) (by decide) (by decide) (by simp; omega) rfl hg (by omega), restC]
      cases t with
      | nil =>
        rw [l0_miss (by decide) (by decide) (by decide) (by simp) (by omega), l0_miss (by decide) (by decide) (by decide) (by simp) (by omega), l0_end (by decide), restN]
        congr 1
        unfold fin mx mn
        by_cases h : x ≤ 244
        · rw [if_pos h]; simp only [T, Step.part, Step.bad, List.length_cons, List.length_nil]; (repeat' split) <;> first | rfl | (exfalso; omega)
        · rw [if_neg h]; simp only [T, Step.bad, List.length_cons, List.length_nil]; (repeat' split) <;> first | rfl | (exfalso; omega)
      | cons z t =>
        have hz := ht z (by simp)
        by_cases hg2 : 128 ≤ z ∧ z < 192
        · rw [l0_good (y := z) (by decide) (by decide) (by decide) (by simp; omega) rfl hg2 (by omega), restC, if_neg (show ¬ z < 128 by omega), if_neg (show ¬ 191 < z by omega)]
          cases t with
          | nil =>
            rw [l0_miss (by decide) (by decide) (by decide) (by simp) (by omega), l0_end (by decide), restN]
            congr 1
            unfold fin mx mn
            by_cases h : x ≤ 244
            · rw [if_pos h]; simp only [T, Step.part, Step.bad, List.length_cons, List.length_nil]; (repeat' split) <;> first | rfl | (exfalso; omega)
            · rw [if_neg h]; simp only [T, Step.bad, List.length_cons, List.length_nil]; (repeat' split) <;> first | rfl | (exfalso; omega)
          | cons v t =>
            have hv := ht v (by simp)
            by_cases hg3 : 128 ≤ v ∧ v < 192
            · rw [l0_good (y := v) (by decide) (by decide) (by decide) (by simp; omega) rfl hg3 (by omega), l0_end (by decide), restC, if_neg (show ¬ v < 128 by omega), if_neg (show ¬ 191 < v by omega), rest0]
              congr 1
              unfold fin mx mn
              by_cases h : x ≤ 244
              · rw [if_pos h]; simp only [T, Step.part, Step.bad, List.length_cons]; (repeat' split) <;> first | rfl | (exfalso; omega)
              · rw [if_neg h]; simp only [T, Step.bad, List.length_cons]; (repeat' split) <;> first | rfl | (exfalso; omega)
            · rw [l0_bad (by decide) (by decide) (by simp; omega) (by show v < 128 ∨ 192 ≤ v; omega), restC]
              congr 1
              by_cases h : x ≤ 244
              · rw [if_pos h]; simp only [T, Step.part, Step.bad]; (repeat' split) <;> first | rfl | (exfalso; omega)
              · rw [if_neg h]; rfl
        · rw [l0_bad (by decide) (by decide) (by simp; omega) (by show z < 128 ∨ 192 ≤ z; omega), restC]
          congr 1
          by_cases h : x ≤ 244
          · rw [if_pos h]; simp only [T, Step.part, Step.bad]; (repeat' split) <;> first | rfl | (exfalso; omega)
          · rw [if_neg h]; rfl
    · rw [l0_bad (by decide) (by decide) (by simp; omega) (by show y < 128 ∨ 192 ≤ y; omega), restC]
      congr 1
      by_cases h : x ≤ 244
      · rw [if_pos h]; simp only [T, Step.part, Step.bad]; (repeat' split) <;> first | rfl | (exfalso; omega)
      · rw [if_neg h]; rfl

set_option maxHeartbeats 1000000 in
/-- The specification's reader of UTF-8 says what the program's says. -/
theorem utf_f {k : Nat} {x : Int} {t : List Int} (h0 : 0 ≤ x) (h1 : x ≤ 255) (ht : ∀ y ∈ t, 0 ≤ y ∧ y ≤ 255) : sorobanref18_utf.f (k + 7) (x :: t) = some (T (nextU (x :: t))) := by
  rw [utf_head h0 h1, nextU_c]
  by_cases c1 : x < 128
  · rw [if_pos c1, if_pos c1, l0_end (by decide)]
    congr 1
    unfold fin mx mn
    simp only [T, List.length_cons]; (repeat' split) <;> first | rfl | (exfalso; omega)
  · rw [if_neg c1, if_neg c1]
    by_cases c2 : 192 ≤ x ∧ x < 224
    · rw [if_pos c2, utf2 c2 ht]
      congr 2
      by_cases h : 194 ≤ x
      · rw [if_pos h, if_pos (show 194 ≤ x ∧ x ≤ 223 by omega)]
      · rw [if_neg h, if_neg (show ¬ (194 ≤ x ∧ x ≤ 223) by omega), if_neg (show ¬ (224 ≤ x ∧ x ≤ 224) by omega), if_neg (show ¬ (225 ≤ x ∧ x ≤ 236) by omega), if_neg (show ¬ (237 ≤ x ∧ x ≤ 237) by omega), if_neg (show ¬ (238 ≤ x ∧ x ≤ 239) by omega), if_neg (show ¬ (240 ≤ x ∧ x ≤ 240) by omega), if_neg (show ¬ (241 ≤ x ∧ x ≤ 243) by omega), if_neg (show ¬ (244 ≤ x ∧ x ≤ 244) by omega)]
    · rw [if_neg c2]
      by_cases c3 : 224 ≤ x ∧ x < 240
      · rw [if_pos c3, utf3 c3 ht]
        congr 2
        rw [if_neg (show ¬ (194 ≤ x ∧ x ≤ 223) by omega)]
        unfold lo3 hi3
        by_cases h1 : x = 224
        · subst h1; rfl
        · by_cases h2 : x = 237
          · subst h2; rfl
          · rw [if_neg h1, if_neg h2, if_neg (show ¬ (224 ≤ x ∧ x ≤ 224) by omega)]
            by_cases h3 : x ≤ 236
            · rw [if_pos (show 225 ≤ x ∧ x ≤ 236 by omega)]
            · rw [if_neg (show ¬ (225 ≤ x ∧ x ≤ 236) by omega), if_neg (show ¬ (237 ≤ x ∧ x ≤ 237) by omega), if_pos (show 238 ≤ x ∧ x ≤ 239 by omega)]
      · rw [if_neg c3]
        by_cases c4 : 240 ≤ x ∧ x < 248
        · rw [if_pos c4, utf4 c4 ht]
          congr 2
          rw [if_neg (show ¬ (194 ≤ x ∧ x ≤ 223) by omega), if_neg (show ¬ (224 ≤ x ∧ x ≤ 224) by omega), if_neg (show ¬ (225 ≤ x ∧ x ≤ 236) by omega), if_neg (show ¬ (237 ≤ x ∧ x ≤ 237) by omega), if_neg (show ¬ (238 ≤ x ∧ x ≤ 239) by omega)]
          unfold lo4 hi4
          by_cases h1 : x = 240
          · subst h1; rfl
          · by_cases h2 : x = 244
            · subst h2; rfl
            · by_cases h3 : x ≤ 244
              · rw [if_pos h3, if_neg h1, if_neg h2, if_neg (show ¬ (240 ≤ x ∧ x ≤ 240) by omega), if_pos (show 241 ≤ x ∧ x ≤ 243 by omega)]
              · rw [if_neg h3, if_neg (show ¬ (240 ≤ x ∧ x ≤ 240) by omega), if_neg (show ¬ (241 ≤ x ∧ x ≤ 243) by omega), if_neg (show ¬ (244 ≤ x ∧ x ≤ 244) by omega)]
        · rw [if_neg c4, if_neg (show ¬ (194 ≤ x ∧ x ≤ 223) by omega), if_neg (show ¬ (224 ≤ x ∧ x ≤ 224) by omega), if_neg (show ¬ (225 ≤ x ∧ x ≤ 236) by omega), if_neg (show ¬ (237 ≤ x ∧ x ≤ 237) by omega), if_neg (show ¬ (238 ≤ x ∧ x ≤ 239) by omega), if_neg (show ¬ (240 ≤ x ∧ x ≤ 240) by omega), if_neg (show ¬ (241 ≤ x ∧ x ≤ 243) by omega), if_neg (show ¬ (244 ≤ x ∧ x ≤ 244) by omega)]
          rfl
end Go.Proofs.Ytcekghcejmhhaaa.Ref
