/- Shifts ahead, as the specification counts them, and what stands behind them. -/
import Derived.Test.YtcekghcejmhhaaaCharsRef
import Derived.Test.YtcekghcejmhhaaaXBaseDx5
set_option linter.unusedSimpArgs false
set_option linter.unusedVariables false
set_option linter.unnecessarySimpa false
namespace Go.Proofs.Ytcekghcejmhhaaa.Ref
open Go.RowKit Go.Proofs.Ytcekghcejmhhaaa.XBaseD Go.Proofs.YtcekghcejmhhaaaW.PrintWords Go.Proofs.YtcekghcejmhhaaaW.PrintLast Go.Proofs.YtcekghcejmhhaaaW.PrintMore Go.Proofs.Ytcekghcejmhhaaa

/-- How many shifts stand ahead, and the state behind them. -/
def skipS : List Int → Nat
  | [] => 0
  | x :: t => if x = 14 ∨ x = 15 then skipS t + 1 else 0
def nowS : Int → List Int → Int
  | s, [] => s
  | s, x :: t => if x = 14 then nowS 1 t else if x = 15 then nowS 0 t else s
theorem skipS_c {x : Int} {t : List Int} : skipS (x :: t) = if x = 14 ∨ x = 15 then skipS t + 1 else 0 := rfl
theorem nowS_c {s x : Int} {t : List Int} : nowS s (x :: t) = if x = 14 then nowS 1 t else if x = 15 then nowS 0 t else s := rfl
theorem skipS_le : ∀ t : List Int, skipS t ≤ t.length
  | [] => by simp [skipS]
  | x :: t => by
    have := skipS_le t
    rw [skipS_c]
    split
    · simp only [List.length_cons]; omega
    · simp
theorem nowS_01 : ∀ (t : List Int) (s : Int), s = 0 ∨ s = 1 → nowS s t = 0 ∨ nowS s t = 1
  | [], s, h => h
  | x :: t, s, h => by
    rw [nowS_c]
    split
    · exact nowS_01 t 1 (.inr rfl)
    · split
      · exact nowS_01 t 0 (.inl rfl)
      · exact h
theorem rd_at {pre t : List Int} {c : Int} : rd (pre ++ c :: t) (pre.length : Int) = c := by simp [rd]

theorem shifts_l0 {b : List Int} (hn : b.length ≤ 20000) : ∀ (t pre : List Int) (k : Nat) (s : Int), b = pre ++ t → t.length < k → sorobanref18_shifts.l0 k 3 s b (pre.length : Int) = some (((pre.length + skipS t : Nat) : Int), nowS s t)
  | [], pre, k, s, h, hk => by
    obtain ⟨k, rfl⟩ : ∃ k', k = k' + 1 := ⟨k - 1, by omega⟩
    rw [sorobanref18_shifts.l0, if_pos rfl, if_neg (by rw [h]; simp)]
    simp [skipS, nowS]
  | x :: t, pre, k, s, h, hk => by
    obtain ⟨k, rfl⟩ : ∃ k', k = k' + 1 := ⟨k - 1, by omega⟩
    have hlen : b.length = pre.length + (t.length + 1) := by rw [h]; simp
    have hrd : rd b (pre.length : Int) = x := by rw [h]; exact rd_at
    simp only [List.length_cons] at hk
    have hw : wrap64 ((pre.length : Int) + 1) = ((pre ++ [x]).length : Int) := by rw [List.length_append, List.length_singleton]; unfold wrap64; omega
    have e : (pre ++ [x]).length = pre.length + 1 := by rw [List.length_append, List.length_singleton]
    rw [sorobanref18_shifts.l0, if_pos rfl, if_pos (by omega), if_pos (by omega), hrd, hw]
    by_cases h1 : x = 14
    · rw [if_pos h1]
      subst h1
      have ih := shifts_l0 hn t (pre ++ [14]) k 1 (by rw [h]; simp) (by omega)
      rw [show ((15 : Int) - 14) % 256 = 1 by decide, ih, e]
      rw [skipS_c, nowS_c]
      simp; try omega
    · rw [if_neg h1]
      by_cases h2 : x = 15
      · rw [if_pos h2]
        subst h2
        have ih := shifts_l0 hn t (pre ++ [15]) k 0 (by rw [h]; simp) (by omega)
        rw [show ((15 : Int) - 15) % 256 = 0 by decide, ih, e]
        rw [skipS_c, nowS_c]
        simp; try omega
      · rw [if_neg h2]
        rw [skipS_c, nowS_c]
        simp [h1, h2]
theorem shifts_3 {b : List Int} {k : Nat} {s : Int} (hn : b.length ≤ 20000) (hk : b.length < k) : sorobanref18_shifts.f k 3 s b = some ((skipS b : Int), nowS s b) := by
  have := shifts_l0 hn b [] k s rfl hk
  simp only [List.length_nil, Nat.zero_add] at this
  exact this
theorem shifts_not {enc : Int} {b : List Int} {k : Nat} {s : Int} (h : ¬ enc = 3) (hk : 0 < k) : sorobanref18_shifts.f k enc s b = some (0, s) := by
  obtain ⟨k, rfl⟩ : ∃ k', k = k' + 1 := ⟨k - 1, by omega⟩
  unfold sorobanref18_shifts.f
  rw [sorobanref18_shifts.l0, if_neg h]

/-- What stands behind the shifts. -/
def core (n s : Int) : List Int → Step
  | [] => .part
  | x :: t => if s = 0 then (if 127 < x then .bad else ⟨1, x, n + 1, 0⟩) else if good x = false then .bad else match t with
    | [] => .part
    | y :: _ => if good y = false then .bad else ⟨1, 19968 + 94 * (x - 33) + (y - 33), n + 2, 1⟩
theorem core_0 {n x : Int} {t : List Int} : core n 0 (x :: t) = if 127 < x then .bad else ⟨1, x, n + 1, 0⟩ := rfl
theorem core_1n {n x : Int} : core n 1 [x] = if good x = false then .bad else .part := rfl
theorem core_1c {n x y : Int} {t : List Int} : core n 1 (x :: y :: t) = if good x = false then .bad else if good y = false then .bad else ⟨1, 19968 + 94 * (x - 33) + (y - 33), n + 2, 1⟩ := rfl
theorem core_1b {n x : Int} {t : List Int} (h : good x = false) : core n 1 (x :: t) = .bad := by
  cases t with
  | nil => rw [core_1n, if_pos h]
  | cons y t => rw [core_1c, if_pos h]
theorem nextS_core : ∀ (b : List Int) (n s : Int), nextS n s b = core (n + skipS b) (nowS s b) (b.drop (skipS b))
  | [], n, s => rfl
  | x :: t, n, s => by
    by_cases h1 : x = 14
    · subst h1
      rw [nextS_o, nextS_core t]
      have e1 : skipS (14 :: t) = skipS t + 1 := by rw [skipS_c, if_pos (.inl rfl)]
      have e2 : nowS s (14 :: t) = nowS 1 t := by rw [nowS_c, if_pos rfl]
      rw [e1, e2, List.drop_succ_cons]
      congr 1
      push_cast; omega
    · by_cases h2 : x = 15
      · subst h2
        rw [nextS_i, nextS_core t]
        have e1 : skipS (15 :: t) = skipS t + 1 := by rw [skipS_c, if_pos (.inr rfl)]
        have e2 : nowS s (15 :: t) = nowS 0 t := by rw [nowS_c, if_neg (by decide), if_pos rfl]
        rw [e1, e2, List.drop_succ_cons]
        congr 1
        push_cast; omega
      · rw [nextS_c h1 h2]
        have e1 : skipS (x :: t) = 0 := by rw [skipS_c, if_neg (fun h => h.elim h1 h2)]
        have e2 : nowS s (x :: t) = s := by rw [nowS_c, if_neg h1, if_neg h2]
        rw [e1, e2, List.drop_zero, Int.natCast_zero, Int.add_zero]
        rfl
theorem good_iff {x : Int} : good x = false ↔ ¬ (33 ≤ x ∧ x < 127) := by
  unfold good
  by_cases h : 33 ≤ x ∧ x < 127
  · simp [h.1, h.2]
  · simp only [Bool.and_eq_false_iff, decide_eq_false_iff_not]; omega

end Go.Proofs.Ytcekghcejmhhaaa.Ref
