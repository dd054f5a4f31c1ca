/- Plain laws of the layer 'chars', 2: what was read is written back. No Go here. -/
import Derived.Test.YtcekghcejmhhaaaCharsLaw
import Derived.Test.YtcekghcejmhhaaaCharsO
set_option linter.unusedSimpArgs false
set_option linter.unusedVariables false
set_option linter.unnecessarySimpa false
namespace Go.Proofs.Ytcekghcejmhhaaa

theorem restS_inv1 {n c lo hi : Int} {t : List Int} (h : (restS n 1 c lo hi t).kind = 1) : ∃ y t', t = y :: t' ∧ lo ≤ y ∧ y ≤ hi ∧ restS n 1 c lo hi t = ⟨1, c * 64 + y % 64, n, 0⟩ := by
  cases t with
  | nil => simp [restS, Step.part] at h
  | cons y t' =>
    rw [restS] at h
    split at h
    · simp [Step.bad] at h
    · split at h
      · simp [Step.bad] at h
      · exact ⟨y, t', rfl, by omega, by omega, restS_put1 (by omega) (by omega)⟩
theorem restS_step {n c lo hi y : Int} {r : Nat} {t : List Int} (h1 : lo ≤ y) (h2 : y ≤ hi) : restS n (r + 1) c lo hi (y :: t) = restS n r (c * 64 + y % 64) 128 191 t := by
  rw [restS, if_neg (by omega), if_neg (by omega)]
theorem restS_inv {n c lo hi : Int} {r : Nat} {t : List Int} (h : (restS n (r + 1) c lo hi t).kind = 1) : ∃ y t', t = y :: t' ∧ lo ≤ y ∧ y ≤ hi ∧ restS n (r + 1) c lo hi t = restS n r (c * 64 + y % 64) 128 191 t' := by
  cases t with
  | nil => simp [restS, Step.part] at h
  | cons y t' =>
    rw [restS] at h
    split at h
    · simp [Step.bad] at h
    · split at h
      · simp [Step.bad] at h
      · exact ⟨y, t', rfl, by omega, by omega, restS_step (by omega) (by omega)⟩

/-- What a step of reading tells of writing. -/
structure PutNext (enc st : Int) (b : List Int) (S : Step) : Prop where
  has : hasC enc S.ch = true
  ch : 0 ≤ S.ch
  state : (putC enc st S.ch).2 = S.st
  len : ((putC enc st S.ch).1.length : Int) ≤ S.bytes
  same : ¬ enc = 3 → (putC enc st S.ch).1 = b.take S.bytes.toNat

theorem put2_1 {st c : Int} (h : c < 128) : putC 2 st c = ([c % 256], 0) := by
  unfold putC; rw [if_neg (by decide), if_pos rfl, if_pos h]
theorem put2_2 {st c : Int} (h0 : ¬ c < 128) (h : c < 2048) : putC 2 st c = ([192 + c / 64, 128 + c % 64], 0) := by
  unfold putC; rw [if_neg (by decide), if_pos rfl, if_neg h0, if_pos h]
theorem put2_3 {st c : Int} (h0 : ¬ c < 2048) (h : c < 65536) : putC 2 st c = ([224 + c / 4096, 128 + c / 64 % 64, 128 + c % 64], 0) := by
  unfold putC; rw [if_neg (by decide), if_pos rfl, if_neg (by omega), if_neg h0, if_pos h]
theorem put2_4 {st c : Int} (h : ¬ c < 65536) : putC 2 st c = ([240 + c / 262144, 128 + c / 4096 % 64, 128 + c / 64 % 64, 128 + c % 64], 0) := by
  unfold putC; rw [if_neg (by decide), if_pos rfl, if_neg (by omega), if_neg (by omega), if_neg h]
theorem has2 {c : Int} (h : c < 55296 ∨ 57343 < c ∧ c ≤ 1114111) : hasC 2 c = true := by
  unfold hasC; rw [if_neg (by decide), if_pos rfl]; simpa using h

theorem pn_2 {st x y : Int} {t : List Int} (hx : 194 ≤ x ∧ x ≤ 223) (hy : 128 ≤ y ∧ y ≤ 191) : PutNext 2 st (x :: y :: t) ⟨1, x % 32 * 64 + y % 64, 2, 0⟩ := by
  have h := put2_2 (st := st) (c := x % 32 * 64 + y % 64) (by omega) (by omega)
  refine ⟨has2 (by dsimp only; omega), by dsimp only; omega, by dsimp only; rw [h], by dsimp only; rw [h]; simp, fun _ => ?_⟩
  dsimp only
  rw [h]
  simp; omega
theorem pn_3 {st x y z : Int} {t : List Int} (hx : 224 ≤ x ∧ x ≤ 239) (hy : 128 ≤ y ∧ y ≤ 191) (h1 : x = 224 → 160 ≤ y) (h2 : x = 237 → y ≤ 159) (hz : 128 ≤ z ∧ z ≤ 191) : PutNext 2 st (x :: y :: z :: t) ⟨1, (x % 16 * 64 + y % 64) * 64 + z % 64, 3, 0⟩ := by
  have h := put2_3 (st := st) (c := (x % 16 * 64 + y % 64) * 64 + z % 64) (by omega) (by omega)
  refine ⟨has2 (by dsimp only; omega), by dsimp only; omega, by dsimp only; rw [h], by dsimp only; rw [h]; simp, fun _ => ?_⟩
  dsimp only
  rw [h]
  simp; omega
theorem pn_4 {st x y z v : Int} {t : List Int} (hx : 240 ≤ x ∧ x ≤ 244) (hy : 128 ≤ y ∧ y ≤ 191) (h1 : x = 240 → 144 ≤ y) (h2 : x = 244 → y ≤ 143) (hz : 128 ≤ z ∧ z ≤ 191) (hv : 128 ≤ v ∧ v ≤ 191) : PutNext 2 st (x :: y :: z :: v :: t) ⟨1, ((x % 8 * 64 + y % 64) * 64 + z % 64) * 64 + v % 64, 4, 0⟩ := by
  have h := put2_4 (st := st) (c := ((x % 8 * 64 + y % 64) * 64 + z % 64) * 64 + v % 64) (by omega)
  refine ⟨has2 (by dsimp only; omega), by dsimp only; omega, by dsimp only; rw [h], by dsimp only; rw [h]; simp, fun _ => ?_⟩
  dsimp only
  rw [h]
  simp; omega

theorem pn_r1 {st x lo hi : Int} {t : List Int} (hx : 194 ≤ x ∧ x ≤ 223) (hlo : 128 ≤ lo) (hhi : hi ≤ 191) (h : (restS 2 1 (x % 32) lo hi t).kind = 1) : PutNext 2 st (x :: t) (restS 2 1 (x % 32) lo hi t) := by
  obtain ⟨y, t', rfl, h1, h2, e⟩ := restS_inv1 h
  rw [e]
  exact pn_2 hx ⟨by omega, by omega⟩
theorem pn_r2 {st x lo hi : Int} {t : List Int} (hx : 224 ≤ x ∧ x ≤ 239) (hlo : 128 ≤ lo) (hhi : hi ≤ 191) (h1 : x = 224 → 160 ≤ lo) (h2 : x = 237 → hi ≤ 159) (h : (restS 3 2 (x % 16) lo hi t).kind = 1) : PutNext 2 st (x :: t) (restS 3 2 (x % 16) lo hi t) := by
  obtain ⟨y, t', rfl, a1, a2, e⟩ := restS_inv h
  rw [e] at h ⊢
  obtain ⟨z, t'', rfl, a3, a4, e2⟩ := restS_inv1 h
  rw [e2]
  exact pn_3 hx ⟨by omega, by omega⟩ (fun q => by have := h1 q; omega) (fun q => by have := h2 q; omega) ⟨a3, a4⟩
theorem pn_r3 {st x lo hi : Int} {t : List Int} (hx : 240 ≤ x ∧ x ≤ 244) (hlo : 128 ≤ lo) (hhi : hi ≤ 191) (h1 : x = 240 → 144 ≤ lo) (h2 : x = 244 → hi ≤ 143) (h : (restS 4 3 (x % 8) lo hi t).kind = 1) : PutNext 2 st (x :: t) (restS 4 3 (x % 8) lo hi t) := by
  obtain ⟨y, t', rfl, a1, a2, e⟩ := restS_inv h
  rw [e] at h ⊢
  obtain ⟨z, t'', rfl, a3, a4, e2⟩ := restS_inv h
  rw [e2] at h ⊢
  obtain ⟨v, t3, rfl, a5, a6, e3⟩ := restS_inv1 h
  rw [e3]
  exact pn_4 hx ⟨by omega, by omega⟩ (fun q => by have := h1 q; omega) (fun q => by have := h2 q; omega) ⟨a3, a4⟩ ⟨a5, a6⟩

def PnIf (st x : Int) (t : List Int) (S : Step) : Prop := S.kind = 1 → PutNext 2 st (x :: t) S
theorem PnIf.ite {st x : Int} {t : List Int} {c : Prop} [Decidable c] {a b : Step} (h1 : c → PnIf st x t a) (h2 : PnIf st x t b) : PnIf st x t (if c then a else b) := by
  split
  · exact h1 (by assumption)
  · exact h2
theorem put_nextU {st x : Int} {t : List Int} (h0 : 0 ≤ x ∧ x ≤ 255) : PnIf st x t (nextU (x :: t)) := by
  rw [nextU]
  refine .ite (fun h _ => ?_) (.ite (fun h k => pn_r1 h (by omega) (by omega) k) (.ite (fun h k => pn_r2 (by omega) (by omega) (by omega) (by omega) (by omega) k) (.ite (fun h k => pn_r2 (by omega) (by omega) (by omega) (by omega) (by omega) k) (.ite (fun h k => pn_r2 (by omega) (by omega) (by omega) (by omega) (by omega) k) (.ite (fun h k => pn_r2 (by omega) (by omega) (by omega) (by omega) (by omega) k)
    (.ite (fun h k => pn_r3 (by omega) (by omega) (by omega) (by omega) (by omega) k) (.ite (fun h k => pn_r3 (by omega) (by omega) (by omega) (by omega) (by omega) k) (.ite (fun h k => pn_r3 (by omega) (by omega) (by omega) (by omega) (by omega) k) (fun k => by simp [Step.bad] at k)))))))))
  have q := put2_1 (st := st) h
  refine ⟨has2 (by dsimp only; omega), by dsimp only; omega, by dsimp only; rw [q], by dsimp only; rw [q]; simp, fun _ => ?_⟩
  dsimp only
  rw [q]
  simp; omega

theorem put_nextS {st : Int} (hst : st = 0 ∨ st = 1) : ∀ (b : List Int) (n s : Int), 0 ≤ n → (s = 0 ∨ s = 1) → (¬ s = st → 1 ≤ n) → (∀ x ∈ b, 0 ≤ x) → (nextS n s b).kind = 1 →
    hasC 3 (nextS n s b).ch = true ∧ 0 ≤ (nextS n s b).ch ∧ (putC 3 st (nextS n s b).ch).2 = (nextS n s b).st ∧ ((putC 3 st (nextS n s b).ch).1.length : Int) ≤ (nextS n s b).bytes
  | [], n, s, _, _, _, _, h => by simp [nextS, Step.part] at h
  | x :: t, n, s, hn, hs, hd, hb, h => by
    by_cases h1 : x = 14
    · subst h1
      rw [nextS_o] at h ⊢
      exact put_nextS hst t _ _ (by omega) (.inr rfl) (fun _ => by omega) (fun y hy => hb y (by simp [hy])) h
    · by_cases h2 : x = 15
      · subst h2
        rw [nextS_i] at h ⊢
        exact put_nextS hst t _ _ (by omega) (.inl rfl) (fun _ => by omega) (fun y hy => hb y (by simp [hy])) h
      · have hx := hb x (by simp)
        rw [nextS_c h1 h2] at h ⊢
        by_cases h3 : s = 0
        · rw [if_pos h3] at h ⊢
          by_cases h4 : 127 < x
          · rw [if_pos h4] at h; simp [Step.bad] at h
          · rw [if_neg h4]
            have e : putC 3 st x = (turnC st 0 ++ [x % 256], 0) := by unfold putC; rw [if_neg (by decide), if_neg (by decide), if_pos (by omega)]
            refine ⟨?_, hx, by dsimp only; rw [e], ?_⟩
            · unfold hasC; rw [if_neg (by decide), if_neg (by decide)]; simp; omega
            · dsimp only
              rw [e]
              subst h3
              rcases hst with rfl | rfl
              · simp [turnC]; omega
              · have := hd (by decide)
                simp [turnC]; omega
        · rw [if_neg h3] at h ⊢
          have hs1 : s = 1 := by omega
          subst hs1
          by_cases h4 : good x = false
          · rw [if_pos h4] at h; simp [Step.bad] at h
          · rw [if_neg h4] at h ⊢
            obtain ⟨g1, g2⟩ := good_to (by simpa using h4)
            cases t with
            | nil => simp [Step.part] at h
            | cons y t' =>
              simp only at h ⊢
              by_cases h5 : good y = false
              · rw [if_pos h5] at h; simp [Step.bad] at h
              · rw [if_neg h5]
                obtain ⟨g3, g4⟩ := good_to (by simpa using h5)
                have e : putC 3 st (19968 + 94 * (x - 33) + (y - 33)) = (turnC st 1 ++ [33 + (19968 + 94 * (x - 33) + (y - 33) - 19968) / 94, 33 + (19968 + 94 * (x - 33) + (y - 33) - 19968) % 94], 1) := by unfold putC; rw [if_neg (by decide), if_neg (by decide), if_neg (by omega)]
                refine ⟨?_, by dsimp only; omega, by dsimp only; rw [e], ?_⟩
                · unfold hasC; rw [if_neg (by decide), if_neg (by decide)]; simp; omega
                · dsimp only
                  rw [e]
                  rcases hst with rfl | rfl
                  · have := hd (by decide)
                    simp [turnC]; omega
                  · simp [turnC]; omega

theorem put_next {enc st : Int} {b : List Int} (he : encOk enc) (hs : stC enc st) (hb : ∀ x ∈ b, 0 ≤ x ∧ x ≤ 255) (h : (nextC enc st b).kind = 1) : PutNext enc st b (nextC enc st b) := by
  have : enc = 1 ∨ enc = 2 ∨ enc = 3 := by unfold encOk at he; omega
  rcases this with rfl | rfl | rfl
  · cases b with
    | nil => simp [nextC, nextO, Step.part] at h
    | cons x t =>
      have := hb x (by simp)
      have e : putC 1 st x = ([x % 256], 0) := by unfold putC; rw [if_pos rfl]
      have e2 : nextC 1 st (x :: t) = ⟨1, x, 1, 0⟩ := rfl
      rw [e2]
      refine ⟨by simp [hasC]; omega, this.1, by dsimp only; rw [e], by dsimp only; rw [e]; simp, fun _ => ?_⟩
      dsimp only
      rw [e]
      simp; omega
  · have e : nextC 2 st b = nextU b := by unfold nextC; rw [if_neg (by decide), if_pos rfl]
    rw [e] at h ⊢
    cases b with
    | nil => simp [nextU, Step.part] at h
    | cons x t => exact put_nextU (hb x (by simp)) h
  · have e : nextC 3 st b = nextS 0 st b := by unfold nextC; rw [if_neg (by decide), if_neg (by decide)]
    rw [e] at h ⊢
    obtain ⟨h1, h2, h3, h4⟩ := put_nextS (hs rfl) b 0 st (by omega) (hs rfl) (fun h => absurd rfl h) (fun x hx => (hb x hx).1) h
    exact ⟨h1, h2, h3, h4, fun h => absurd rfl h⟩
end Go.Proofs.Ytcekghcejmhhaaa
