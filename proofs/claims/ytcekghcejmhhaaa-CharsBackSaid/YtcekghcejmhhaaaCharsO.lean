import Derived.Test.YtcekghcejmhhaaaCharsK
import Derived.Test.YtcekghcejmhhaaaCharsN
import Derived.Test.YtcekghcejmhhaaaGenRange
set_option linter.unusedSimpArgs false
set_option linter.unusedVariables false
set_option linter.unnecessarySimpa false
namespace Go.Proofs.Ytcekghcejmhhaaa
open Go.RowKit Go.Proofs.YtcekghcejmhhaaaW.PrintWords Go.Proofs.YtcekghcejmhhaaaW.PrintLast Go.Proofs.YtcekghcejmhhaaaW.PrintMore
set_option maxRecDepth 100000

theorem nextS_14 {n s : Int} {t : List Int} : nextS n s (14 :: t) = nextS (n + 1) 1 t := by cases t <;> simp [nextS]
theorem nextS_15 {n s : Int} {t : List Int} : nextS n s (15 :: t) = nextS (n + 1) 0 t := by cases t <;> simp [nextS]
theorem nextS_st : ∀ (b : List Int) (n s : Int), (s = 0 ∨ s = 1) → (nextS n s b).st = 0 ∨ (nextS n s b).st = 1
  | [], n, s, _ => .inl rfl
  | x :: t, n, s, hs => by
    by_cases h1 : x = 14
    · subst h1; rw [nextS_14]; exact nextS_st t _ _ (.inr rfl)
    · by_cases h2 : x = 15
      · subst h2; rw [nextS_15]; exact nextS_st t _ _ (.inl rfl)
      · rw [nextS_other h1 h2]
        split
        · split <;> simp [Step.bad]
        · split
          · simp [Step.bad]
          · split
            · simp [Step.part]
            · split <;> simp [Step.bad]

theorem nextS_bytes : ∀ (b : List Int) (n s : Int), (nextS n s b).kind = 1 → n + 1 ≤ (nextS n s b).bytes ∧ (nextS n s b).bytes ≤ n + b.length
  | [], n, s, h => by simp [nextS, Step.part] at h
  | x :: t, n, s, h => by
    by_cases h1 : x = 14
    · subst h1; rw [nextS_14] at h ⊢
      have := nextS_bytes t _ _ h
      simp only [List.length_cons]; omega
    · by_cases h2 : x = 15
      · subst h2; rw [nextS_15] at h ⊢
        have := nextS_bytes t _ _ h
        simp only [List.length_cons]; omega
      · rw [nextS_other h1 h2] at h ⊢
        split at h
        · rename_i h3
          rw [if_pos h3]
          split at h
          · simp [Step.bad] at h
          · rename_i h4
            rw [if_neg h4]; simp only [List.length_cons]; omega
        · rename_i h3
          rw [if_neg h3]
          split at h
          · simp [Step.bad] at h
          · rename_i h4
            rw [if_neg h4]
            cases t with
            | nil => simp [Step.part] at h
            | cons y t' =>
              simp only at h ⊢
              split at h
              · simp [Step.bad] at h
              · rename_i h5
                rw [if_neg h5]; simp only [List.length_cons]; omega

theorem restS_bytes (n : Int) : ∀ (r : Nat) (c lo hi : Int) (t : List Int), (restS n r c lo hi t).kind = 1 → (restS n r c lo hi t).bytes = n ∧ r ≤ t.length
  | 0, c, lo, hi, t, _ => ⟨rfl, Nat.zero_le _⟩
  | r + 1, c, lo, hi, [], h => by simp [restS, Step.part] at h
  | r + 1, c, lo, hi, x :: t, h => by
    rw [restS] at h ⊢
    split at h
    · simp [Step.bad] at h
    · rename_i h1
      rw [if_neg h1]
      split at h
      · simp [Step.bad] at h
      · rename_i h2
        rw [if_neg h2]
        have := restS_bytes n r _ _ _ t h
        simp only [List.length_cons]; omega

def BytesOk (S : Step) (m : Nat) : Prop := S.kind = 1 → 1 ≤ S.bytes ∧ S.bytes ≤ m
theorem BytesOk.ite {c : Prop} [Decidable c] {a b : Step} {m : Nat} (h1 : BytesOk a m) (h2 : BytesOk b m) : BytesOk (if c then a else b) m := by split <;> assumption
theorem BytesOk.rest {n : Int} {r : Nat} {c lo hi : Int} {t : List Int} (hn : n = r + 1) : BytesOk (restS n r c lo hi t) (t.length + 1) := fun h => by
  have := restS_bytes n r c lo hi t h
  omega
theorem BytesOk.bad {m : Nat} : BytesOk .bad m := fun h => by simp [Step.bad] at h
theorem nextU_bytes (b : List Int) : BytesOk (nextU b) b.length := by
  cases b with
  | nil => intro h; simp [nextU, Step.part] at h
  | cons x t =>
    rw [nextU]
    simp only [List.length_cons]
    refine .ite (fun _ => ⟨by simp, by simp; omega⟩) ?_
    repeat' (first | exact BytesOk.bad | exact BytesOk.rest rfl | refine BytesOk.ite ?_ ?_)
theorem nextC_bytes {enc s : Int} {b : List Int} (h : (nextC enc s b).kind = 1) : 1 ≤ (nextC enc s b).bytes ∧ (nextC enc s b).bytes ≤ b.length := by
  unfold nextC at h ⊢
  split at h
  · rename_i h1
    rw [if_pos h1]
    cases b with
    | nil => simp [nextO, Step.part] at h
    | cons x t => simp [nextO]; omega
  · rename_i h1
    rw [if_neg h1]
    split at h
    · rename_i h2; rw [if_pos h2]; exact nextU_bytes b h
    · rename_i h2; rw [if_neg h2]; have := nextS_bytes b 0 s h; omega
theorem nextC_st3 {s : Int} {b : List Int} (hs : s = 0 ∨ s = 1) : (nextC 3 s b).st = 0 ∨ (nextC 3 s b).st = 1 := nextS_st b 0 s hs

/-- One step of reading. -/
theorem decodeLoop_step {enc st : Int} {f : Nat} {at_ : Int} {b : List Int} (h1 : passedC enc b = false) (h2 : (nextC enc st b).kind = 1) :
    decodeLoop enc (f + 1) st at_ b = ((at_, (nextC enc st b).ch) :: (decodeLoop enc f (nextC enc st b).st (at_ + (nextC enc st b).bytes) (b.drop (nextC enc st b).bytes.toNat)).1, (decodeLoop enc f (nextC enc st b).st (at_ + (nextC enc st b).bytes) (b.drop (nextC enc st b).bytes.toNat)).2) := by
  rw [decodeLoop, if_neg (by rw [h1]; simp), if_pos h2]
theorem decodeLoop_stop {enc st : Int} {f : Nat} {at_ : Int} {b : List Int} (h1 : passedC enc b = true) : decodeLoop enc f st at_ b = ([], none) := by
  cases f with
  | zero => rfl
  | succ f => rw [decodeLoop, if_pos h1]
theorem decodeLoop_fail {enc st : Int} {f : Nat} {at_ : Int} {b : List Int} (h1 : passedC enc b = false) (h2 : ¬ (nextC enc st b).kind = 1) : decodeLoop enc (f + 1) st at_ b = ([], some at_) := by
  rw [decodeLoop, if_neg (by rw [h1]; simp), if_neg h2]
theorem passedC_nil (enc : Int) : passedC enc [] = true := by unfold passedC; split <;> rfl

/-- The iterator's loop, after some characters. -/
def IterRel (enc : Int) (xs : List Int) (J : List (Int × Int) → World → Prop) (w : World) (vs va : Value) : Prop :=
  ∃ (k f : Nat) (st : Int) (pre : List (Int × Int)), k ≤ xs.length ∧ xs.length - k ≤ f ∧ pre.length ≤ k ∧ va = .int .i64 k ∧ vs = .int .i64 st ∧ (enc = 3 → st = 0 ∨ st = 1) ∧ J pre w ∧
    decodeLoop enc xs.length 0 0 xs = (pre ++ (decodeLoop enc f st k (xs.drop k)).1, (decodeLoop enc f st k (xs.drop k)).2)
end Go.Proofs.Ytcekghcejmhhaaa
