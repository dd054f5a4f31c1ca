/- The specification's Has, Reset and Put (as the kit's printer tells them): what each returns, in the form that the printed walks ask for. -/
import Derived.Test.YtcekghcejmhhaaaXBasex3
import Derived.Test.YtcekghcejmhhaaaXBasex4
import Derived.Test.YtcekghcejmhhaaaXBasex5
import Derived.Test.YtcekghcejmhhaaaCharsExtA
set_option linter.unusedSimpArgs false
set_option linter.unusedVariables false
set_option linter.unnecessarySimpa false
namespace Go.Proofs.Ytcekghcejmhhaaa.RefP
open Go.RowKit Go.Proofs.YtcekghcejmhhaaaW.PrintWords Go.Proofs.YtcekghcejmhhaaaW.PrintLast Go.Proofs.YtcekghcejmhhaaaW.PrintMore Go.Proofs.Ytcekghcejmhhaaa Go.Proofs.Ytcekghcejmhhaaa.XBase

theorem enc123 {enc : Int} (he : encOk enc) : enc = 1 ∨ enc = 2 ∨ enc = 3 := by unfold encOk at he; omega

theorem has_f {enc c : Int} (he : encOk enc) : sorobanref18_Has.f enc c = some (hasC enc c) := by
  unfold sorobanref18_Has.f
  rcases enc123 he with rfl | rfl | rfl
  · show _ = some (decide (c < 256))
    rw [if_pos rfl]; congr 2; rw [eq_iff_iff]; omega
  · show _ = some (decide (c < 55296 ∨ 57343 < c ∧ c ≤ 1114111))
    rw [if_neg (by decide), if_pos rfl]
    by_cases h1 : c ≤ 1114111
    · rw [if_pos h1]
      by_cases h2 : c < 55296
      · rw [if_pos h2]; simp [h2]
      · rw [if_neg h2]; congr 1; simp [h1, h2]
    · rw [if_neg h1]; congr 1; simp; omega
  · show _ = some (decide (c ≤ 127 ∧ c ≠ 14 ∧ c ≠ 15 ∨ 19968 ≤ c ∧ c ≤ 28803))
    rw [if_neg (by decide), if_neg (by decide)]
    by_cases h1 : c ≤ 127
    · rw [if_pos h1]
      have h4 : ¬ c ≥ 19968 := by omega
      by_cases h2 : c = 14
      · rw [if_pos h2, if_neg h4]; subst h2; rfl
      · rw [if_neg h2]
        by_cases h3 : c = 15
        · rw [if_pos h3, if_neg h4]; subst h3; rfl
        · rw [if_neg h3]; simp [h1, h2, h3]
    · rw [if_neg h1]
      by_cases h4 : c ≥ 19968
      · rw [if_pos h4]; congr 1; simp [h1, h4]
      · rw [if_neg h4]; congr 1; simp; omega

theorem reset_f {st : Int} (h : st = 0 ∨ st = 1) : sorobanref18_Reset.f st = some (turnC st 0) := by
  rcases h with rfl | rfl <;> rfl

theorem put_f {enc st c : Int} {k : Nat} (he : encOk enc) (hs : st = 0 ∨ st = 1) (h0 : 0 ≤ c) (hc : hasC enc c = true) (hk : 3 ≤ k) : sorobanref18_Put.f k enc st c = some (putC enc st c) := by
  obtain ⟨k, rfl⟩ : ∃ k', k = k' + 3 := ⟨k - 3, by omega⟩
  have t64 : ∀ x : Int, 0 ≤ x → Int.tmod x 64 = x % 64 := fun x hx => Int.tmod_eq_emod_of_nonneg hx
  unfold sorobanref18_Put.f
  rcases enc123 he with rfl | rfl | rfl
  · rw [if_pos rfl, sorobanref18_Put.j0, if_pos rfl]; simp [putC]
  · rw [if_neg (by decide), if_pos rfl, sorobanref18_Put.j0]
    have hc2 : c < 55296 ∨ 57343 < c ∧ c ≤ 1114111 := by simpa [hasC] using hc
    by_cases h1 : c < 128
    · rw [if_pos (by simpa using h1), put2_1 h1]
    · rw [if_neg (by simpa using h1), if_pos rfl, sorobanref18_Put.j1]
      by_cases h2 : c < 2048
      · rw [if_pos (by simpa using h2), put2_2 h1 h2, t64 c h0]
        congr 2
        simp only [List.cons.injEq, and_true]
        omega
      · rw [if_neg (by simpa using h2), if_pos rfl, sorobanref18_Put.j2]
        by_cases h3 : c < 65536
        · rw [if_pos (by simpa using h3), put2_3 h2 h3, t64 c h0, t64 (c / 64) (by omega)]
          congr 2
          simp only [List.cons.injEq, and_true]
          omega
        · rw [if_neg (by simpa using h3), if_pos rfl, put2_4 h3, t64 c h0, t64 (c / 64) (by omega), t64 (c / 4096) (by omega)]
          congr 2
          simp only [List.cons.injEq, and_true]
          omega
  · have hc2 : c ≤ 127 ∧ c ≠ 14 ∧ c ≠ 15 ∨ 19968 ≤ c ∧ c ≤ 28803 := by simpa [hasC] using hc
    rw [if_neg (by decide), if_neg (by decide), sorobanref18_Put.j0, if_neg (by decide), if_neg (by decide), sorobanref18_Put.j1, if_neg (by decide), if_neg (by decide), sorobanref18_Put.j2, if_neg (by decide), if_neg (by decide)]
    have e0 : putC 3 st c = if c ≤ 127 then (turnC st 0 ++ [c % 256], 0) else (turnC st 1 ++ [33 + (c - 19968) / 94, 33 + (c - 19968) % 94], 1) := rfl
    rw [e0]
    by_cases h1 : c ≤ 127
    · rw [if_pos h1, if_pos h1]
      rcases hs with rfl | rfl
      · rw [if_neg (by decide), if_pos (by decide)]; rfl
      · rw [if_pos (by decide), if_pos (by decide)]; rfl
    · rw [if_neg h1, if_neg h1]
      have e1 : ((33 + (c - 19968) % 4294967296 / 94) % 4294967296) % 256 = 33 + (c - 19968) / 94 := by omega
      have e2 : 33 + (c - 19968) % 4294967296 % 94 = 33 + (c - 19968) % 94 := by omega
      rw [e1, e2]
      rcases hs with rfl | rfl
      · rw [if_pos (by decide), if_pos (by decide)]; rfl
      · rw [if_neg (by decide)]; rfl

end Go.Proofs.Ytcekghcejmhhaaa.RefP

namespace Go.Proofs.Ytcekghcejmhhaaa
open Go.RowKit Go.Proofs.YtcekghcejmhhaaaW.PrintWords Go.Proofs.YtcekghcejmhhaaaW.PrintLast Go.Proofs.YtcekghcejmhhaaaW.PrintMore
def sorobanref18_Has.f (a0 a1 : Int) : Option Bool := if encOk a0 then some (hasC a0 a1) else none
theorem sorobanref18_Has.calls (a0 a1 : Int) (r : Bool) (w : World) (h : sorobanref18_Has.f a0 a1 = some r) :
    Calls Try.prog 32 #[.int .i64 a0, .int .u32 a1] w fun e w' => e = .returned (.bool r) ∧ Below w.heap.size w w' := by
  unfold sorobanref18_Has.f at h
  split at h
  · rename_i he
    exact (XBase.sorobanref18_Has.calls a0 a1 r w ((RefP.has_f he).trans h)).mono fun e w' ⟨h1, h2⟩ => ⟨h1, h2.below⟩
  · cases h
def sorobanref18_Reset.f (a0 : Int) : Option (List Int) := if a0 = 0 ∨ a0 = 1 then some (turnC a0 0) else none
theorem sorobanref18_Reset.calls (a0 : Int) (r : List Int) (w : World) (h : sorobanref18_Reset.f a0 = some r) :
    Calls Try.prog 34 #[.int .i64 a0] w fun e w' => ∃ v0_ : Value, e = .returned (v0_) ∧ Kd.R (Kd.int .u8) 5 w' w.heap.size (fun _ => True) v0_ r ∧ Below w.heap.size w w' := by
  unfold sorobanref18_Reset.f at h
  split at h
  · rename_i h0
    exact XBase.sorobanref18_Reset.calls a0 r w ((RefP.reset_f h0).trans h)
  · cases h
def sorobanref18_Put.f (a0 a1 a2 : Int) : Option (List Int × Int) := if encOk a0 ∧ (a1 = 0 ∨ a1 = 1) ∧ 0 ≤ a2 ∧ hasC a0 a2 = true then some (putC a0 a1 a2) else none
theorem sorobanref18_Put.calls (a0 a1 a2 : Int) (r1 : List Int) (r2 : Int) (w : World) (h : sorobanref18_Put.f a0 a1 a2 = some (r1, r2)) :
    Calls Try.prog 35 #[.int .i64 a0, .int .i64 a1, .int .u32 a2] w fun e w' => ∃ v0_ : Value, e = .returned (.tuple #[v0_, .int .i64 r2]) ∧ Kd.R (Kd.int .u8) 5 w' w.heap.size (fun _ => True) v0_ r1 ∧ Below w.heap.size w w' := by
  unfold sorobanref18_Put.f at h
  split at h
  · rename_i h0
    exact XBase.sorobanref18_Put.calls 3 a0 a1 a2 r1 r2 w ((RefP.put_f h0.1 h0.2.1 h0.2.2.1 h0.2.2.2 (Nat.le_refl _)).trans h)
  · cases h
theorem has_x {enc c : Int} (he : encOk enc) : sorobanref18_Has.f enc c = some (hasC enc c) := by unfold sorobanref18_Has.f; rw [if_pos he]
theorem reset_x {st : Int} (h : st = 0 ∨ st = 1) : sorobanref18_Reset.f st = some (turnC st 0) := by unfold sorobanref18_Reset.f; rw [if_pos h]
theorem put_x {enc st c : Int} (he : encOk enc) (hs : st = 0 ∨ st = 1) (h0 : 0 ≤ c) (hc : hasC enc c = true) : sorobanref18_Put.f enc st c = some (putC enc st c) := by unfold sorobanref18_Put.f; rw [if_pos ⟨he, hs, h0, hc⟩]
end Go.Proofs.Ytcekghcejmhhaaa
