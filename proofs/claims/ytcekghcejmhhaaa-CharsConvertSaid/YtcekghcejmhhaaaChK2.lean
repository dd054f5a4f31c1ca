/- Joined: CharsC, CharsE, CharsF, CharsG, CharsH: contracts of functions of the program, and plain laws. -/
import Derived.Test.YtcekghcejmhhaaaChK1
import Derived.Deep.RegionWith
import Derived.StillTailTactics
import Derived.Deep.RegionHeld3
import Derived.IntWalk
import Derived.Deep.WholeRow
import Derived.Deep.CutBlock
import Derived.Great.BuildSlice
import Derived.BigGuardPart
set_option linter.unusedSimpArgs false
set_option linter.unusedVariables false
set_option linter.unnecessarySimpa false
namespace Go.Proofs.Ytcekghcejmhhaaa
open Go.RowKit Go.Proofs.YtcekghcejmhhaaaW.PrintWords Go.Proofs.YtcekghcejmhhaaaW.PrintLast Go.Proofs.YtcekghcejmhhaaaW.PrintMore

@[go_sem] abbrev leadV (f t n s e : Int) : Value := .agg #[.int .u8 f, .int .u8 t, .int .i64 n, .int .u8 s, .int .u8 e]
@[go_sem] abbrev Step.val (s : Step) : Value := stepV s.kind s.ch s.bytes s.st

theorem wraps_u32 (n : Int) (h₀ : 0 ≤ n) (h₁ : n < 2 ^ 32) : IntKind.u32.wrap n = n := by rw [IntKind.wrap_u32]; omega
theorem u32_and31 {x : Int} (h₀ : 0 ≤ x) (h₁ : x < 4294967296) : bits .and .u32 x 31 = x % 32 := bits_mask .u32 32 (by decide) wraps_u32 5 (by decide) x h₀ h₁
theorem u32_and15 {x : Int} (h₀ : 0 ≤ x) (h₁ : x < 4294967296) : bits .and .u32 x 15 = x % 16 := bits_mask .u32 32 (by decide) wraps_u32 4 (by decide) x h₀ h₁
theorem u32_and7 {x : Int} (h₀ : 0 ≤ x) (h₁ : x < 4294967296) : bits .and .u32 x 7 = x % 8 := bits_mask .u32 32 (by decide) wraps_u32 3 (by decide) x h₀ h₁
theorem u32_or6 {x y : Int} (hx₀ : 0 ≤ x) (hx₁ : x * 64 < 4294967296) (h₀ : 0 ≤ y) (h₁ : y < 64) : bits .or .u32 (x * 64) y = x * 64 + y := by
  rw [u32_or _ _ (by omega) hx₁ h₀ (by omega), nat_join 6 _ _ (by omega) (by omega)]; omega

theorem rest_start {N : Nat} (hN : N = 2 ∨ N = 3 ∨ N = 4) {x0 : Int} (h0 : 0 ≤ x0) (h1 : x0 ≤ 255) : 0 ≤ x0 % 2 ^ (7 - N) ∧ x0 % 2 ^ (7 - N) < 32 := by
  rcases hN with rfl | rfl | rfl <;> simp <;> omega

def RestRel (N : Nat) (xs : List Int) (S : Step) (vc vl vh vi : Value) : Prop :=
  ∃ (k : Nat) (c lo hi : Int), 1 ≤ k ∧ k ≤ N ∧ k ≤ xs.length ∧ vi = .int .i64 k ∧ vc = .int .u32 c ∧ vl = .int .u8 lo ∧ vh = .int .u8 hi ∧ 0 ≤ c ∧
    (k = 1 → c < 32) ∧ (k = 2 → c < 2048) ∧ (k = 3 → c < 131072) ∧ restS N (N - k) c lo hi (xs.drop k) = S

theorem rest_step {N k n : Nat} {xs : List Int} {S : Step} {cc x : Int} (k1 : 1 ≤ k) (hkN : k < N) (hk : k < n) (hl : xs.length = n) (c0 : 0 ≤ cc) (xa : 0 ≤ x)
    (hB : (k = 1 → cc < 32) ∧ (k = 2 → cc < 2048) ∧ (k = 3 → cc < 131072)) (hR : restS N (N - (k + 1)) (cc * 64 + x % 64) 128 191 (xs.drop (k + 1)) = S) :
    RestRel N xs S (.int .u32 (cc * 64 + x % 64)) (.int .u8 128) (.int .u8 191) (.int .i64 (k + 1)) :=
  ⟨k + 1, _, _, _, by omega, by omega, by omega, rfl, rfl, rfl, rfl, by omega, by omega, by omega, by omega, hR⟩

set_option maxHeartbeats 8000000 in
theorem rest_any (N : Nat) (hN : N = 2 ∨ N = 3 ∨ N = 4) (f t s e : Int) (b off n c : Nat) (xs : List Int) (w : World) (hC : ∀ i, i < n → w.cell? ⟨b, off + i, none⟩ = some (.int .u8 (xs.getD i 0))) (hlt : b < w.heap.size) (hn : 0 < n)
    (hl : xs.length = n) (hx : ∀ i, 0 ≤ xs.getD i 0 ∧ xs.getD i 0 ≤ 255) (hm : n ≤ 9223372036854775807) (S : Step) (hS : restS N (N - 1) (xs.getD 0 0 % (2 ^ (7 - N))) s e (xs.drop 1) = S) :
    Calls Try.prog 79 #[leadV f t N s e, .slice (some ⟨b, off, none⟩) n c] w fun r w' => r = .returned S.val ∧ Below w.heap.size w w' := by
  have h0 : w.cell? ⟨b, off, none⟩ = some (.int .u8 (xs.getD 0 0)) := by simpa using hC 0 hn
  obtain ⟨x0a, x0b⟩ := hx 0
  have hst : RestRel N xs S (.int .u32 (xs.getD 0 0 % (2 ^ (7 - N)))) (.int .u8 s) (.int .u8 e) (.int .i64 1) :=
    ⟨1, _, s, e, by omega, by omega, by omega, rfl, rfl, rfl, rfl, (rest_start hN x0a x0b).1, fun _ => (rest_start hN x0a x0b).2, by omega, by omega, hS⟩
  have HC := Lib.hid hC
  have HX := Lib.hid hx
  have HL := Lib.hid hl
  have HST := Lib.hid hst
  clear hC hx hS hl hst
  generalize xs.getD 0 0 = x0 at *
  have HN : Hid (N = 2 ∨ N = 3 ∨ N = 4) := Lib.hid hN
  rcases hN with rfl | rfl | rfl
  · go_enter Try.func79, Try.ntmps79
    go_wp2
    go_quiet (fail)
    go_wp2
    go_quiet (fail)
    go_wp2
    first | rw [u32_and31 x0a (by omega)] | rw [u32_and15 x0a (by omega)] | rw [u32_and7 x0a (by omega)]
    go_loop [5, 6, 7, 8] (fun c l h i => RestRel _ xs S c l h i) (fun _ _ _ i => 4 - (intOf i).toNat)
    case atStart => exact HST.out
    case round =>
      obtain ⟨k, cc, lo, hi, k1, kN, kl, rfl, rfl, rfl, rfl, c0, b1, b2, b3, hR⟩ := hrel
      have HR := Lib.hid hR
      have HB := Lib.hid (And.intro b1 (And.intro b2 b3))
      clear hR b1 b2 b3
      have hnl := HL.out
      by_cases hkN : k < 2
      · by_cases hkn : k = n
        · subst hkn
          clear hnl
          have hS2 : Step.part = S := by
            have h := HR.out
            rw [List.drop_eq_nil_of_le (by have := HL.out; omega)] at h
            obtain ⟨r, hr⟩ : ∃ r, 2 - k = r + 1 := ⟨2 - k - 1, by omega⟩
            rw [hr] at h
            exact h
          subst hS2
          go_wp2_with (go_at_call 72; (with_reducible refine (not_any _ _).mono ?_); rintro e w1 ⟨rfl, hb⟩; obtain ⟨hc, hf⟩ := bcell hb)
          have hz := below_size hb
          simp at hz
          exact bodyPost_ret (v := stepV 3 0 0 0) (by simp [results, Try.results79, go_sem, hc, hz]) rfl ⟨rfl, bel⟩
        · have hlt2 : k < n := by omega
          have t1 : ((k : Int) == (n : Int)) = false := by simp; omega
          have hcell := HC.out k hlt2
          obtain ⟨xa, xb⟩ := HX.out k
          clear hnl
          have hR2 : (if xs.getD k 0 < lo then Step.bad else if hi < xs.getD k 0 then Step.bad else restS 2 (2 - (k + 1)) (cc * 64 + xs.getD k 0 % 64) 128 191 (xs.drop (k + 1))) = S := by
            have h := HR.out
            rw [List.drop_eq_getElem_cons (by have := HL.out; omega)] at h
            obtain ⟨r, hr⟩ : ∃ r, 2 - k = r + 1 := ⟨2 - k - 1, by omega⟩
            have hr2 : 2 - (k + 1) = r := by omega
            rw [hr] at h
            rw [hr2, List.getD_eq_getElem?_getD, List.getElem?_eq_getElem (by have := HL.out; omega)]
            exact h
          generalize xs.getD k 0 = x at *
          by_cases ha : x < lo
          · rw [if_pos ha] at hR2
            subst hR2
            go_wp2_with (go_at_call 72; (with_reducible refine (not_any _ _).mono ?_); rintro e w1 ⟨rfl, hb⟩; obtain ⟨hc, hf⟩ := bcell hb)
            have hz := below_size hb
            simp at hz
            exact bodyPost_ret (v := stepV 2 0 0 0) (by simp [results, Try.results79, go_sem, hc, hz]) rfl ⟨rfl, bel⟩
          · rw [if_neg ha] at hR2
            by_cases hb' : hi < x
            · rw [if_pos hb'] at hR2
              subst hR2
              go_wp2_with (go_at_call 72; (with_reducible refine (not_any _ _).mono ?_); rintro e w1 ⟨rfl, hb⟩; obtain ⟨hc, hf⟩ := bcell hb)
              have hz := below_size hb
              simp at hz
              exact bodyPost_ret (v := stepV 2 0 0 0) (by simp [results, Try.results79, go_sem, hc, hz]) rfl ⟨rfl, bel⟩
            · rw [if_neg hb'] at hR2
              have HR2 := Lib.hid hR2
              clear hR2
              have cb : cc < 131072 := by have := HB.out; omega
              go_wp2
              refine ⟨⟨_, _, _, _, ?_, rfl, rfl, rfl, rfl⟩, by simp [intOf]; omega⟩
              rw [u32_or6 c0 (by omega) (by omega) (by omega)]
              exact rest_step k1 hkN hlt2 HL.out c0 xa HB.out HR2.out
      · have hk2 : k = 2 := by omega
        subst hk2
        have hR2 : Step.mk 1 cc 2 0 = S := HR.out
        subst hR2
        clear hnl
        go_wp2_with (go_at_call 73; (with_reducible refine (whole_any _ _ _ _).mono ?_); rintro e w1 ⟨rfl, hb⟩; obtain ⟨hc, hf⟩ := bcell hb)
        have hz := below_size hb
        simp at hz
        exact bodyPost_ret (v := stepV 1 cc 2 0) (by simp [results, Try.results79, go_sem, hc, hz]) rfl ⟨rfl, bel⟩
  · go_enter Try.func79, Try.ntmps79
    go_wp2
    go_quiet (fail)
    go_wp2
    go_quiet (fail)
    go_wp2
    first | rw [u32_and31 x0a (by omega)] | rw [u32_and15 x0a (by omega)] | rw [u32_and7 x0a (by omega)]
    go_loop [5, 6, 7, 8] (fun c l h i => RestRel _ xs S c l h i) (fun _ _ _ i => 4 - (intOf i).toNat)
    case atStart => exact HST.out
    case round =>
      obtain ⟨k, cc, lo, hi, k1, kN, kl, rfl, rfl, rfl, rfl, c0, b1, b2, b3, hR⟩ := hrel
      have HR := Lib.hid hR
      have HB := Lib.hid (And.intro b1 (And.intro b2 b3))
      clear hR b1 b2 b3
      have hnl := HL.out
      by_cases hkN : k < 3
      · by_cases hkn : k = n
        · subst hkn
          clear hnl
          have hS2 : Step.part = S := by
            have h := HR.out
            rw [List.drop_eq_nil_of_le (by have := HL.out; omega)] at h
            obtain ⟨r, hr⟩ : ∃ r, 3 - k = r + 1 := ⟨3 - k - 1, by omega⟩
            rw [hr] at h
            exact h
          subst hS2
          go_wp2_with (go_at_call 72; (with_reducible refine (not_any _ _).mono ?_); rintro e w1 ⟨rfl, hb⟩; obtain ⟨hc, hf⟩ := bcell hb)
          have hz := below_size hb
          simp at hz
          exact bodyPost_ret (v := stepV 3 0 0 0) (by simp [results, Try.results79, go_sem, hc, hz]) rfl ⟨rfl, bel⟩
        · have hlt2 : k < n := by omega
          have t1 : ((k : Int) == (n : Int)) = false := by simp; omega
          have hcell := HC.out k hlt2
          obtain ⟨xa, xb⟩ := HX.out k
          clear hnl
          have hR2 : (if xs.getD k 0 < lo then Step.bad else if hi < xs.getD k 0 then Step.bad else restS 3 (3 - (k + 1)) (cc * 64 + xs.getD k 0 % 64) 128 191 (xs.drop (k + 1))) = S := by
            have h := HR.out
            rw [List.drop_eq_getElem_cons (by have := HL.out; omega)] at h
            obtain ⟨r, hr⟩ : ∃ r, 3 - k = r + 1 := ⟨3 - k - 1, by omega⟩
            have hr2 : 3 - (k + 1) = r := by omega
            rw [hr] at h
            rw [hr2, List.getD_eq_getElem?_getD, List.getElem?_eq_getElem (by have := HL.out; omega)]
            exact h
          generalize xs.getD k 0 = x at *
          by_cases ha : x < lo
          · rw [if_pos ha] at hR2
            subst hR2
            go_wp2_with (go_at_call 72; (with_reducible refine (not_any _ _).mono ?_); rintro e w1 ⟨rfl, hb⟩; obtain ⟨hc, hf⟩ := bcell hb)
            have hz := below_size hb
            simp at hz
            exact bodyPost_ret (v := stepV 2 0 0 0) (by simp [results, Try.results79, go_sem, hc, hz]) rfl ⟨rfl, bel⟩
          · rw [if_neg ha] at hR2
            by_cases hb' : hi < x
            · rw [if_pos hb'] at hR2
              subst hR2
              go_wp2_with (go_at_call 72; (with_reducible refine (not_any _ _).mono ?_); rintro e w1 ⟨rfl, hb⟩; obtain ⟨hc, hf⟩ := bcell hb)
              have hz := below_size hb
              simp at hz
              exact bodyPost_ret (v := stepV 2 0 0 0) (by simp [results, Try.results79, go_sem, hc, hz]) rfl ⟨rfl, bel⟩
            · rw [if_neg hb'] at hR2
              have HR2 := Lib.hid hR2
              clear hR2
              have cb : cc < 131072 := by have := HB.out; omega
              go_wp2
              refine ⟨⟨_, _, _, _, ?_, rfl, rfl, rfl, rfl⟩, by simp [intOf]; omega⟩
              rw [u32_or6 c0 (by omega) (by omega) (by omega)]
              exact rest_step k1 hkN hlt2 HL.out c0 xa HB.out HR2.out
      · have hk2 : k = 3 := by omega
        subst hk2
        have hR2 : Step.mk 1 cc 3 0 = S := HR.out
        subst hR2
        clear hnl
        go_wp2_with (go_at_call 73; (with_reducible refine (whole_any _ _ _ _).mono ?_); rintro e w1 ⟨rfl, hb⟩; obtain ⟨hc, hf⟩ := bcell hb)
        have hz := below_size hb
        simp at hz
        exact bodyPost_ret (v := stepV 1 cc 3 0) (by simp [results, Try.results79, go_sem, hc, hz]) rfl ⟨rfl, bel⟩
  · go_enter Try.func79, Try.ntmps79
    go_wp2
    go_quiet (fail)
    go_wp2
    go_quiet (fail)
    go_wp2
    first | rw [u32_and31 x0a (by omega)] | rw [u32_and15 x0a (by omega)] | rw [u32_and7 x0a (by omega)]
    go_loop [5, 6, 7, 8] (fun c l h i => RestRel _ xs S c l h i) (fun _ _ _ i => 4 - (intOf i).toNat)
    case atStart => exact HST.out
    case round =>
      obtain ⟨k, cc, lo, hi, k1, kN, kl, rfl, rfl, rfl, rfl, c0, b1, b2, b3, hR⟩ := hrel
      have HR := Lib.hid hR
      have HB := Lib.hid (And.intro b1 (And.intro b2 b3))
      clear hR b1 b2 b3
      have hnl := HL.out
      by_cases hkN : k < 4
      · by_cases hkn : k = n
        · subst hkn
          clear hnl
          have hS2 : Step.part = S := by
            have h := HR.out
            rw [List.drop_eq_nil_of_le (by have := HL.out; omega)] at h
            obtain ⟨r, hr⟩ : ∃ r, 4 - k = r + 1 := ⟨4 - k - 1, by omega⟩
            rw [hr] at h
            exact h
          subst hS2
          go_wp2_with (go_at_call 72; (with_reducible refine (not_any _ _).mono ?_); rintro e w1 ⟨rfl, hb⟩; obtain ⟨hc, hf⟩ := bcell hb)
          have hz := below_size hb
          simp at hz
          exact bodyPost_ret (v := stepV 3 0 0 0) (by simp [results, Try.results79, go_sem, hc, hz]) rfl ⟨rfl, bel⟩
        · have hlt2 : k < n := by omega
          have t1 : ((k : Int) == (n : Int)) = false := by simp; omega
          have hcell := HC.out k hlt2
          obtain ⟨xa, xb⟩ := HX.out k
          clear hnl
          have hR2 : (if xs.getD k 0 < lo then Step.bad else if hi < xs.getD k 0 then Step.bad else restS 4 (4 - (k + 1)) (cc * 64 + xs.getD k 0 % 64) 128 191 (xs.drop (k + 1))) = S := by
            have h := HR.out
            rw [List.drop_eq_getElem_cons (by have := HL.out; omega)] at h
            obtain ⟨r, hr⟩ : ∃ r, 4 - k = r + 1 := ⟨4 - k - 1, by omega⟩
            have hr2 : 4 - (k + 1) = r := by omega
            rw [hr] at h
            rw [hr2, List.getD_eq_getElem?_getD, List.getElem?_eq_getElem (by have := HL.out; omega)]
            exact h
          generalize xs.getD k 0 = x at *
          by_cases ha : x < lo
          · rw [if_pos ha] at hR2
            subst hR2
            go_wp2_with (go_at_call 72; (with_reducible refine (not_any _ _).mono ?_); rintro e w1 ⟨rfl, hb⟩; obtain ⟨hc, hf⟩ := bcell hb)
            have hz := below_size hb
            simp at hz
            exact bodyPost_ret (v := stepV 2 0 0 0) (by simp [results, Try.results79, go_sem, hc, hz]) rfl ⟨rfl, bel⟩
          · rw [if_neg ha] at hR2
            by_cases hb' : hi < x
            · rw [if_pos hb'] at hR2
              subst hR2
              go_wp2_with (go_at_call 72; (with_reducible refine (not_any _ _).mono ?_); rintro e w1 ⟨rfl, hb⟩; obtain ⟨hc, hf⟩ := bcell hb)
              have hz := below_size hb
              simp at hz
              exact bodyPost_ret (v := stepV 2 0 0 0) (by simp [results, Try.results79, go_sem, hc, hz]) rfl ⟨rfl, bel⟩
            · rw [if_neg hb'] at hR2
              have HR2 := Lib.hid hR2
              clear hR2
              have cb : cc < 131072 := by have := HB.out; omega
              go_wp2
              refine ⟨⟨_, _, _, _, ?_, rfl, rfl, rfl, rfl⟩, by simp [intOf]; omega⟩
              rw [u32_or6 c0 (by omega) (by omega) (by omega)]
              exact rest_step k1 hkN hlt2 HL.out c0 xa HB.out HR2.out
      · have hk2 : k = 4 := by omega
        subst hk2
        have hR2 : Step.mk 1 cc 4 0 = S := HR.out
        subst hR2
        clear hnl
        go_wp2_with (go_at_call 73; (with_reducible refine (whole_any _ _ _ _).mono ?_); rintro e w1 ⟨rfl, hb⟩; obtain ⟨hc, hf⟩ := bcell hb)
        have hz := below_size hb
        simp at hz
        exact bodyPost_ret (v := stepV 1 cc 4 0) (by simp [results, Try.results79, go_sem, hc, hz]) rfl ⟨rfl, bel⟩
end Go.Proofs.Ytcekghcejmhhaaa

namespace Go.Proofs.Ytcekghcejmhhaaa
open Go.RowKit Go.Proofs.YtcekghcejmhhaaaW.PrintWords Go.Proofs.YtcekghcejmhhaaaW.PrintLast Go.Proofs.YtcekghcejmhhaaaW.PrintMore

theorem good_true {x : Int} (h1 : 33 ≤ x) (h2 : x < 127) : good x = true := by simp [good, h1, h2]
set_option maxHeartbeats 400000 in
theorem good_yes (x : Int) (w : World) (h : good x = true) : Calls Try.prog 85 #[.int .u8 x] w fun r w' => r = .returned (.bool true) ∧ w = w' := by
  obtain ⟨h1, h2⟩ : 33 ≤ x ∧ x < 127 := by simpa [good] using h
  clear h
  go_enter Try.func85, Try.ntmps85
  go_wp2
  go_ret
  exact ⟨rfl, rfl⟩
set_option maxHeartbeats 400000 in
theorem good_no (x : Int) (w : World) (h : good x = false) : Calls Try.prog 85 #[.int .u8 x] w fun r w' => r = .returned (.bool false) ∧ w = w' := by
  have h' : x < 33 ∨ 33 ≤ x ∧ 127 ≤ x := by simp [good] at h; omega
  clear h
  rcases h' with h1 | ⟨h1, h2⟩
  · go_enter Try.func85, Try.ntmps85
    go_wp2
    go_ret
    exact ⟨rfl, rfl⟩
  · go_enter Try.func85, Try.ntmps85
    go_wp2
    go_ret
    exact ⟨by simp; omega, rfl⟩

theorem nextS_other {x : Int} (h1 : ¬ x = 14) (h2 : ¬ x = 15) {n s : Int} {t : List Int} : nextS n s (x :: t) = (if s = 0 then (if 127 < x then Step.bad else ⟨1, x, n + 1, 0⟩) else if good x = false then .bad else match t with
    | [] => .part
    | y :: _ => if good y = false then .bad else ⟨1, 19968 + 94 * (x - 33) + (y - 33), n + 2, 1⟩) := by
  cases t <;> simp only [nextS, if_neg h1, if_neg h2]

theorem pair_wrap {x y : Int} (g1 : 33 ≤ x) (g2 : x < 127) (g3 : 33 ≤ y) (g4 : y < 127) :
    IntKind.u32.wrap (IntKind.u32.wrap (19968 + IntKind.u32.wrap (94 * IntKind.u32.wrap (x - 33))) + IntKind.u32.wrap (y - 33)) = 19968 + 94 * (x - 33) + (y - 33) := by
  simp only [IntKind.wrap_u32]; omega

def ShRel (xs : List Int) (S : Step) (vs vi : Value) : Prop :=
  ∃ (k : Nat) (s : Int), k ≤ xs.length ∧ vi = .int .i64 k ∧ vs = .int .i64 s ∧ (s = 0 ∨ s = 1) ∧ nextS k s (xs.drop k) = S

set_option maxRecDepth 100000 in
set_option maxHeartbeats 4000000 in
theorem shift_next (s : Int) (hs : s = 0 ∨ s = 1) (A : Option Addr) (n c : Nat) (xs : List Int) (w : World) (hC : Kd.C (Kd.int .u8) w A n xs)
    (hx : ∀ i, 0 ≤ xs.getD i 0 ∧ xs.getD i 0 ≤ 255) :
    Calls Try.prog 82 #[.agg #[], .int .i64 s, .slice A n c] w fun r w' => r = .returned (nextS 0 s xs).val ∧ Below w.heap.size w w' := by
  have hl : xs.length = n := hC.1
  have hm : n ≤ 9223372036854775807 := hC.2.1
  obtain ⟨S, hS⟩ : ∃ S, nextS 0 s xs = S := ⟨_, rfl⟩
  rw [hS]
  have HST : Hid (ShRel xs S (.int .i64 s) (.int .i64 0)) := Lib.hid ⟨0, s, Nat.zero_le _, rfl, rfl, hs, by simpa using hS⟩
  have HC := Lib.hid hC
  have HX := Lib.hid hx
  have HL := Lib.hid hl
  clear hC hx hS hl hs
  go_enter Try.func82, Try.ntmps82
  go_wp2
  go_loop [1, 7] (fun vs vi => ShRel xs S vs vi) (fun _ i => n - (intOf i).toNat)
  case atStart => exact HST.out
  case round =>
    obtain ⟨k, st, kl, rfl, rfl, hst, hR⟩ := hrel
    have HR := Lib.hid hR
    have HST2 := Lib.hid hst
    clear hR hst
    have hnl := HL.out
    by_cases hkn : k = n
    · have hS2 : Step.part = S := by
        have h := HR.out
        rw [List.drop_eq_nil_of_le (by omega)] at h
        simpa [nextS] using h
      clear hnl
      subst hkn
      subst hS2
      go_wp2_with (go_at_call 72; (with_reducible refine (not_any _ _).mono ?_); rintro e w1 ⟨rfl, hb⟩; obtain ⟨hc, hf⟩ := bcell hb)
      (have hz := below_size hb; simp at hz; exact bodyPost_ret (v := stepV 3 0 0 0) (by simp [results, Try.results82, go_sem, hc, hz]) rfl ⟨rfl, bel⟩)
    · have hlt2 : k < n := by omega
      have t1 : ((k : Int) == (n : Int)) = false := by simp; omega
      obtain ⟨b, off, rfl, hlt, hcs⟩ := open_C HC.out (by omega)
      have hcell := hcs k hlt2
      have HCS := Lib.hid hcs
      clear hcs
      obtain ⟨xa, xb⟩ := HX.out k
      have hR2 : nextS k st (xs.getD k 0 :: xs.drop (k + 1)) = S := by
        have h := HR.out
        rw [List.drop_eq_getElem_cons (by omega)] at h
        rw [List.getD_eq_getElem?_getD, List.getElem?_eq_getElem (by omega)]
        exact h
      clear hnl
      generalize hxk : xs.getD k 0 = x at *
      clear hxk
      by_cases x14 : x = 14
      · subst x14
        have HR3 : Hid (nextS (k + 1) 1 (xs.drop (k + 1)) = S) := Lib.hid (by simpa [nextS] using hR2)
        clear hR2
        go_wp2
        exact ⟨⟨k + 1, 1, by have := HL.out; omega, rfl, rfl, .inr rfl, HR3.out⟩, by simp [intOf]; omega⟩
      · have t2 : (x == 14) = false := by simp [x14]
        by_cases x15 : x = 15
        · subst x15
          have HR3 : Hid (nextS (k + 1) 0 (xs.drop (k + 1)) = S) := Lib.hid (by simpa [nextS] using hR2)
          clear hR2 x14
          go_wp2
          exact ⟨⟨k + 1, 0, by have := HL.out; omega, rfl, rfl, .inl rfl, HR3.out⟩, by simp [intOf]; omega⟩
        · have t3 : (x == 15) = false := by simp [x15]
          have HR3 : Hid ((if st = 0 then (if 127 < x then Step.bad else ⟨1, x, k + 1, 0⟩) else if good x = false then .bad else match xs.drop (k + 1) with
            | [] => .part
            | y :: _ => if good y = false then .bad else ⟨1, 19968 + 94 * (x - 33) + (y - 33), k + 2, 1⟩) = S) := Lib.hid ((nextS_other x14 x15).symm.trans hR2)
          clear hR2 x14 x15
          rcases HST2.out with rfl | rfl
          · by_cases hx7 : 127 < x
            · have hS2 : Step.bad = S := by have h := HR3.out; rw [if_pos rfl, if_pos hx7] at h; exact h
              subst hS2
              go_wp2_with (go_at_call 72; (with_reducible refine (not_any _ _).mono ?_); rintro e w1 ⟨rfl, hb⟩; obtain ⟨hc, hf⟩ := bcell hb)
              (have hz := below_size hb; simp at hz; exact bodyPost_ret (v := stepV 2 0 0 0) (by simp [results, Try.results82, go_sem, hc, hz]) rfl ⟨rfl, bel⟩)
            · have hS2 : Step.mk 1 x (k + 1) 0 = S := by have h := HR3.out; rw [if_pos rfl, if_neg hx7] at h; exact h
              subst hS2
              go_wp2_with (go_at_call 73; (with_reducible refine (whole_any _ _ _ _).mono ?_); rintro e w1 ⟨rfl, hb⟩; obtain ⟨hc, hf⟩ := bcell hb)
              (have hz := below_size hb; simp at hz; exact bodyPost_ret (v := stepV 1 x (k + 1) 0) (by simp [results, Try.results82, go_sem, hc, hz]) rfl ⟨rfl, bel⟩)
          · by_cases hg : good x = false
            · have hS2 : Step.bad = S := by have h := HR3.out; rw [if_neg (by omega), if_pos hg] at h; exact h
              subst hS2
              have HG := Lib.hid hg
              clear hg
              go_wp2_with (first | (go_at_call 85; (with_reducible refine (good_no _ _ HG.out).mono ?_); rintro e w1 ⟨rfl, rfl⟩) | (go_at_call 72; (with_reducible refine (not_any _ _).mono ?_); rintro e w1 ⟨rfl, hb⟩; obtain ⟨hc, hf⟩ := bcell hb))
              (have hz := below_size hb; simp at hz; exact bodyPost_ret (v := stepV 2 0 0 0) (by simp [results, Try.results82, go_sem, hc, hz]) rfl ⟨rfl, bel⟩)
            · have hg1 : good x = true := by simpa using hg
              have HG := Lib.hid hg1
              clear hg hg1
              by_cases hk1 : k + 1 = n
              · have hS2 : Step.part = S := by
                  have h := HR3.out
                  rw [if_neg (by omega), if_neg (by rw [HG.out]; simp), List.drop_eq_nil_of_le (by have := HL.out; omega)] at h
                  exact h
                subst hS2
                have t4 : ((k : Int) + 1 == (n : Int)) = true := by simp; omega
                clear hk1
                go_wp2_with (first | (go_at_call 85; (with_reducible refine (good_yes _ _ HG.out).mono ?_); rintro e w1 ⟨rfl, rfl⟩) | (go_at_call 72; (with_reducible refine (not_any _ _).mono ?_); rintro e w1 ⟨rfl, hb⟩; obtain ⟨hc, hf⟩ := bcell hb))
                (have hz := below_size hb; simp at hz; exact bodyPost_ret (v := stepV 3 0 0 0) (by simp [results, Try.results82, go_sem, hc, hz]) rfl ⟨rfl, bel⟩)
              · have hlt3 : k + 1 < n := by omega
                have t4 : ((k : Int) + 1 == (n : Int)) = false := by simp; omega
                have hcell2 := HCS.out (k + 1) hlt3
                obtain ⟨ya, yb⟩ := HX.out (k + 1)
                have hR4 : (if good (xs.getD (k + 1) 0) = false then Step.bad else ⟨1, 19968 + 94 * (x - 33) + (xs.getD (k + 1) 0 - 33), k + 2, 1⟩) = S := by
                  have h := HR3.out
                  rw [if_neg (by omega), if_neg (by rw [HG.out]; simp), List.drop_eq_getElem_cons (by have := HL.out; omega)] at h
                  rw [List.getD_eq_getElem?_getD, List.getElem?_eq_getElem (by have := HL.out; omega)]
                  exact h
                generalize hyk : xs.getD (k + 1) 0 = y at *
                clear hyk
                obtain ⟨g1, g2⟩ : 33 ≤ x ∧ x < 127 := by simpa [good] using HG.out
                by_cases hgy : good y = false
                · have hS2 : Step.bad = S := by rw [if_pos hgy] at hR4; exact hR4
                  subst hS2
                  have HGY := Lib.hid hgy
                  clear hgy hR4
                  go_wp2_with (first | (go_at_call_of 85 x; (with_reducible refine (good_yes _ _ HG.out).mono ?_); rintro e w1 ⟨rfl, rfl⟩) | (go_at_call_of 85 y; (with_reducible refine (good_no _ _ HGY.out).mono ?_); rintro e w1 ⟨rfl, rfl⟩) | (go_at_call 72; (with_reducible refine (not_any _ _).mono ?_); rintro e w1 ⟨rfl, hb⟩; obtain ⟨hc, hf⟩ := bcell hb))
                  (have hz := below_size hb; simp at hz; exact bodyPost_ret (v := stepV 2 0 0 0) (by simp [results, Try.results82, go_sem, hc, hz]) rfl ⟨rfl, bel⟩)
                · have hgy1 : good y = true := by simpa using hgy
                  have hS2 : Step.mk 1 (19968 + 94 * (x - 33) + (y - 33)) (k + 2) 1 = S := by rw [if_neg hgy] at hR4; exact hR4
                  subst hS2
                  obtain ⟨g3, g4⟩ : 33 ≤ y ∧ y < 127 := by simpa [good] using hgy1
                  have HGY := Lib.hid hgy1
                  clear hgy hR4 hgy1
                  go_wp2_with (first | (go_at_call_of 85 x; (with_reducible refine (good_yes _ _ HG.out).mono ?_); rintro e w1 ⟨rfl, rfl⟩) | (go_at_call_of 85 y; (with_reducible refine (good_yes _ _ HGY.out).mono ?_); rintro e w1 ⟨rfl, rfl⟩) | (go_at_call 72; (with_reducible refine (not_any _ _).mono ?_); rintro e w1 ⟨rfl, hb⟩; obtain ⟨hc, hf⟩ := bcell hb))
                  have s1 : IntKind.i64.wrap ((k : Int) + 1) = (k : Int) + 1 := IntWalk.i64_in _ (by omega)
                  have s2 : IntKind.i64.wrap ((k : Int) + 2) = (k : Int) + 2 := IntWalk.i64_in _ (by omega)
                  have s5 : (0 : Int) ≤ (k : Int) + 1 := by omega
                  have s6 : (k : Int) + 1 < (n : Int) := by omega
                  have s7 : ((k : Int) + 1).toNat = k + 1 := by omega
                  have s3 : IntKind.u8.wrap (x - 33) = x - 33 := by rw [IntKind.wrap_u8]; omega
                  have s4 : IntKind.u8.wrap (y - 33) = y - 33 := by rw [IntKind.wrap_u8]; omega
                  go_region_held3 (fun w' => w'.cell? ⟨b, off + k, none⟩ = some (.int .u8 x) ∧ w'.cell? ⟨b, off + (k + 1), none⟩ = some (.int .u8 y)) (first | (go_keep; done) | (go_split_ands; refine ⟨?_, ?_⟩ <;> (rw [hc _ _ (by simp; omega)]; assumption)) | (go_split_ands; refine ⟨?_, ?_⟩ <;> ((repeat rw [World.cell?_setCell_far _ _ _ _ (by simp; omega)]); assumption))) ((go_at_call 73; (with_reducible refine (whole_any _ _ _ _).mono ?_); rintro e w1 ⟨rfl, hb⟩; obtain ⟨hc, hf⟩ := bcell hb))
                  rename_i hHeld
                  clear hHeld
                  rw [pair_wrap g1 g2 g3 g4]
                  go_wp2
                  (have hz := below_size hb; simp at hz; exact bodyPost_ret (v := stepV 1 (19968 + 94 * (x - 33) + (y - 33)) (k + 2) 1) (by simp [results, Try.results82, go_sem, hc, hz]) rfl ⟨rfl, bel⟩)
end Go.Proofs.Ytcekghcejmhhaaa

namespace Go.Proofs.Ytcekghcejmhhaaa
open Go.RowKit Go.Proofs.YtcekghcejmhhaaaW.PrintWords Go.Proofs.YtcekghcejmhhaaaW.PrintLast Go.Proofs.YtcekghcejmhhaaaW.PrintMore

theorem rest_2 (f t s e : Int) (b off n c : Nat) (xs : List Int) (w : World) (hC : ∀ i, i < n → w.cell? ⟨b, off + i, none⟩ = some (.int .u8 (xs.getD i 0))) (hlt : b < w.heap.size) (hn : 0 < n)
    (hl : xs.length = n) (hx : ∀ i, 0 ≤ xs.getD i 0 ∧ xs.getD i 0 ≤ 255) (hm : n ≤ 9223372036854775807) (S : Step) (hS : restS 2 1 (xs.getD 0 0 % 32) s e (xs.drop 1) = S) :
    Calls Try.prog 79 #[leadV f t 2 s e, .slice (some ⟨b, off, none⟩) n c] w fun r w' => r = .returned S.val ∧ Below w.heap.size w w' :=
  rest_any 2 (.inl rfl) f t s e b off n c xs w hC hlt hn hl hx hm S hS
theorem rest_3 (f t s e : Int) (b off n c : Nat) (xs : List Int) (w : World) (hC : ∀ i, i < n → w.cell? ⟨b, off + i, none⟩ = some (.int .u8 (xs.getD i 0))) (hlt : b < w.heap.size) (hn : 0 < n)
    (hl : xs.length = n) (hx : ∀ i, 0 ≤ xs.getD i 0 ∧ xs.getD i 0 ≤ 255) (hm : n ≤ 9223372036854775807) (S : Step) (hS : restS 3 2 (xs.getD 0 0 % 16) s e (xs.drop 1) = S) :
    Calls Try.prog 79 #[leadV f t 3 s e, .slice (some ⟨b, off, none⟩) n c] w fun r w' => r = .returned S.val ∧ Below w.heap.size w w' :=
  rest_any 3 (.inr (.inl rfl)) f t s e b off n c xs w hC hlt hn hl hx hm S hS
theorem rest_4 (f t s e : Int) (b off n c : Nat) (xs : List Int) (w : World) (hC : ∀ i, i < n → w.cell? ⟨b, off + i, none⟩ = some (.int .u8 (xs.getD i 0))) (hlt : b < w.heap.size) (hn : 0 < n)
    (hl : xs.length = n) (hx : ∀ i, 0 ≤ xs.getD i 0 ∧ xs.getD i 0 ≤ 255) (hm : n ≤ 9223372036854775807) (S : Step) (hS : restS 4 3 (xs.getD 0 0 % 8) s e (xs.drop 1) = S) :
    Calls Try.prog 79 #[leadV f t 4 s e, .slice (some ⟨b, off, none⟩) n c] w fun r w' => r = .returned S.val ∧ Below w.heap.size w w' :=
  rest_any 4 (.inr (.inr rfl)) f t s e b off n c xs w hC hlt hn hl hx hm S hS

def leadCells : List (List Value) := [
  [.int .u8 194, .int .u8 223, .int .i64 2, .int .u8 128, .int .u8 191],
  [.int .u8 224, .int .u8 224, .int .i64 3, .int .u8 160, .int .u8 191],
  [.int .u8 225, .int .u8 236, .int .i64 3, .int .u8 128, .int .u8 191],
  [.int .u8 237, .int .u8 237, .int .i64 3, .int .u8 128, .int .u8 159],
  [.int .u8 238, .int .u8 239, .int .i64 3, .int .u8 128, .int .u8 191],
  [.int .u8 240, .int .u8 240, .int .i64 4, .int .u8 144, .int .u8 191],
  [.int .u8 241, .int .u8 243, .int .i64 4, .int .u8 128, .int .u8 191],
  [.int .u8 244, .int .u8 244, .int .i64 4, .int .u8 128, .int .u8 143]]
def leadsA : Array Value := leadCells.flatten.toArray

theorem leadsA_one : leadsA.all (·.oneCell') = true := by kernel_rfl
theorem leadsA_info : (Try.prog.info? 126).map (·.size) = some leadsA.size := by kernel_rfl
theorem leadsA_eq : (Array.mk [Value.int .u8 194, .int .u8 223, .int .i64 2, .int .u8 128, .int .u8 191,
  .int .u8 224, .int .u8 224, .int .i64 3, .int .u8 160, .int .u8 191,
  .int .u8 225, .int .u8 236, .int .i64 3, .int .u8 128, .int .u8 191,
  .int .u8 237, .int .u8 237, .int .i64 3, .int .u8 128, .int .u8 159,
  .int .u8 238, .int .u8 239, .int .i64 3, .int .u8 128, .int .u8 191,
  .int .u8 240, .int .u8 240, .int .i64 4, .int .u8 144, .int .u8 191,
  .int .u8 241, .int .u8 243, .int .i64 4, .int .u8 128, .int .u8 191,
  .int .u8 244, .int .u8 244, .int .i64 4, .int .u8 128, .int .u8 143]) = leadsA := rfl

set_option maxRecDepth 100000 in
set_option maxHeartbeats 1000000 in
theorem leads_any (w : World) : Calls Try.prog 78 #[] w fun r w' => r = .returned (.agg leadsA) ∧ Below w.heap.size w w' := by
  go_enter Try.func78, Try.ntmps78
  go_upto_region 1 with (fail)
  apply wp_region_lit
  refine wpList_buildTo rfl 125 _ rfl (some 1) rfl #[.int .u8 194, .int .u8 223, .int .i64 2, .int .u8 128, .int .u8 191] (by as_aux_lemma => kernel_rfl) ?_
  refine wpList_buildTo rfl 125 _ rfl (some 2) rfl #[.int .u8 224, .int .u8 224, .int .i64 3, .int .u8 160, .int .u8 191] (by as_aux_lemma => kernel_rfl) ?_
  refine wpList_buildTo rfl 125 _ rfl (some 3) rfl #[.int .u8 225, .int .u8 236, .int .i64 3, .int .u8 128, .int .u8 191] (by as_aux_lemma => kernel_rfl) ?_
  refine wpList_buildTo rfl 125 _ rfl (some 4) rfl #[.int .u8 237, .int .u8 237, .int .i64 3, .int .u8 128, .int .u8 159] (by as_aux_lemma => kernel_rfl) ?_
  refine wpList_buildTo rfl 125 _ rfl (some 5) rfl #[.int .u8 238, .int .u8 239, .int .i64 3, .int .u8 128, .int .u8 191] (by as_aux_lemma => kernel_rfl) ?_
  refine wpList_buildTo rfl 125 _ rfl (some 6) rfl #[.int .u8 240, .int .u8 240, .int .i64 4, .int .u8 144, .int .u8 191] (by as_aux_lemma => kernel_rfl) ?_
  refine wpList_buildTo rfl 125 _ rfl (some 7) rfl #[.int .u8 241, .int .u8 243, .int .i64 4, .int .u8 128, .int .u8 191] (by as_aux_lemma => kernel_rfl) ?_
  refine wpList_buildTo rfl 125 _ rfl (some 8) rfl #[.int .u8 244, .int .u8 244, .int .i64 4, .int .u8 128, .int .u8 143] (by as_aux_lemma => kernel_rfl) ?_
  refine wpList_buildTo rfl 126 _ rfl (some 9) rfl leadsA (by as_aux_lemma => kernel_rfl) ?_
  refine wpList_store_rowTo rfl 126 (.tmp 0) (.tmp 9) rfl rfl w.heap.size leadsA (by as_aux_lemma => kernel_rfl) (by as_aux_lemma => kernel_rfl) 126 _ (heap_alloc_new w _) leadsA_info (by as_aux_lemma => kernel_rfl) leadsA_one ?_
  rw [World.setRow_alloc_new]
  apply wpList_nil
  simp only [Exit.then]
  go_at_K
  go_wp2
  exact bodyPost_ret (results_cell_row rfl _ _ w.heap.size 126 leadsA (0, 0) _ (by as_aux_lemma => kernel_rfl) (heap_alloc_new w _) Try.underlying126 rfl leadsA_info) rfl ⟨rfl, bel⟩
end Go.Proofs.Ytcekghcejmhhaaa

namespace Go.Proofs.Ytcekghcejmhhaaa
open Go.RowKit Go.Proofs.YtcekghcejmhhaaaW.PrintWords Go.Proofs.YtcekghcejmhhaaaW.PrintLast Go.Proofs.YtcekghcejmhhaaaW.PrintMore

def tail8 (_x : Int) (_t : List Int) : Step := .bad
def tail7 (x : Int) (t : List Int) : Step := if 244 ≤ x ∧ x ≤ 244 then restS 4 3 (x % 8) 128 143 t else tail8 x t
def tail6 (x : Int) (t : List Int) : Step := if 241 ≤ x ∧ x ≤ 243 then restS 4 3 (x % 8) 128 191 t else tail7 x t
def tail5 (x : Int) (t : List Int) : Step := if 240 ≤ x ∧ x ≤ 240 then restS 4 3 (x % 8) 144 191 t else tail6 x t
def tail4 (x : Int) (t : List Int) : Step := if 238 ≤ x ∧ x ≤ 239 then restS 3 2 (x % 16) 128 191 t else tail5 x t
def tail3 (x : Int) (t : List Int) : Step := if 237 ≤ x ∧ x ≤ 237 then restS 3 2 (x % 16) 128 159 t else tail4 x t
def tail2 (x : Int) (t : List Int) : Step := if 225 ≤ x ∧ x ≤ 236 then restS 3 2 (x % 16) 128 191 t else tail3 x t
def tail1 (x : Int) (t : List Int) : Step := if 224 ≤ x ∧ x ≤ 224 then restS 3 2 (x % 16) 160 191 t else tail2 x t
def tail0 (x : Int) (t : List Int) : Step := if 194 ≤ x ∧ x ≤ 223 then restS 2 1 (x % 32) 128 191 t else tail1 x t
theorem nextU_cons (x : Int) (t : List Int) : nextU (x :: t) = if x < 128 then ⟨1, x, 1, 0⟩ else tail0 x t := rfl
/-- From row k on. -/
def FindRel (x : Int) (t : List Int) (S : Step) (vi : Value) : Prop :=
  ∃ k : Int, vi = .int .i64 k ∧ (k = 0 ∧ tail0 x t = S ∨ k = 1 ∧ tail1 x t = S ∨ k = 2 ∧ tail2 x t = S ∨ k = 3 ∧ tail3 x t = S ∨ k = 4 ∧ tail4 x t = S ∨ k = 5 ∧ tail5 x t = S ∨ k = 6 ∧ tail6 x t = S ∨ k = 7 ∧ tail7 x t = S ∨ k = 8 ∧ tail8 x t = S)

theorem lead_at0 (w : World) : (Instr.index 126 (.agg leadsA) (.int .i64 0)).run Try.prog w = .ok (leadV 194 223 2 128 191) w := by kernel_rfl
theorem lead_at1 (w : World) : (Instr.index 126 (.agg leadsA) (.int .i64 1)).run Try.prog w = .ok (leadV 224 224 3 160 191) w := by kernel_rfl
theorem lead_at2 (w : World) : (Instr.index 126 (.agg leadsA) (.int .i64 2)).run Try.prog w = .ok (leadV 225 236 3 128 191) w := by kernel_rfl
theorem lead_at3 (w : World) : (Instr.index 126 (.agg leadsA) (.int .i64 3)).run Try.prog w = .ok (leadV 237 237 3 128 159) w := by kernel_rfl
theorem lead_at4 (w : World) : (Instr.index 126 (.agg leadsA) (.int .i64 4)).run Try.prog w = .ok (leadV 238 239 3 128 191) w := by kernel_rfl
theorem lead_at5 (w : World) : (Instr.index 126 (.agg leadsA) (.int .i64 5)).run Try.prog w = .ok (leadV 240 240 4 144 191) w := by kernel_rfl
theorem lead_at6 (w : World) : (Instr.index 126 (.agg leadsA) (.int .i64 6)).run Try.prog w = .ok (leadV 241 243 4 128 191) w := by kernel_rfl
theorem lead_at7 (w : World) : (Instr.index 126 (.agg leadsA) (.int .i64 7)).run Try.prog w = .ok (leadV 244 244 4 128 143) w := by kernel_rfl

set_option maxRecDepth 100000 in
set_option maxHeartbeats 8000000 in
theorem utf8_next (s : Int) (A : Option Addr) (n c : Nat) (xs : List Int) (w : World) (hC : Kd.C (Kd.int .u8) w A n xs)
    (hx : ∀ i, 0 ≤ xs.getD i 0 ∧ xs.getD i 0 ≤ 255) :
    Calls Try.prog 75 #[.agg #[], .int .i64 s, .slice A n c] w fun r w' => r = .returned (nextU xs).val ∧ Below w.heap.size w w' := by
  have hl : xs.length = n := hC.1
  have hm : n ≤ 9223372036854775807 := hC.2.1
  cases xs with
  | nil =>
    obtain rfl : n = 0 := by simpa using hl.symm
    clear hC hx hl
    go_enter Try.func75, Try.ntmps75
    go_wp2_with (go_at_call 72; (with_reducible refine (not_any _ _).mono ?_); rintro e w1 ⟨rfl, hb⟩; obtain ⟨hc, hf⟩ := bcell hb)
    (have hz := below_size hb; simp at hz; exact bodyPost_ret (v := stepV 3 0 0 0) (by simp [results, Try.results75, go_sem, hc, hz]) rfl ⟨rfl, bel⟩)
  | cons x t =>
    have hn : 0 < n := by simp at hl; omega
    obtain ⟨b, off, rfl, hlt, hcs⟩ := open_C hC hn
    have h0 : w.cell? ⟨b, off, none⟩ = some (.int .u8 x) := by simpa using hcs 0 hn
    obtain ⟨xa, xb⟩ := hx 0
    simp only [List.getD_cons_zero] at xa xb
    have HCS := Lib.hid hcs
    have HX := Lib.hid hx
    have HL := Lib.hid hl
    clear hC hx hl hcs
    have t0 : ((n : Int) == 0) = false := by simp; omega
    by_cases h128 : x < 128
    · have hS : Step.mk 1 x 1 0 = nextU (x :: t) := by rw [nextU_cons, if_pos h128]
      rw [← hS]
      clear hS
      go_enter Try.func75, Try.ntmps75
      go_wp2_with (go_at_call 73; (with_reducible refine (whole_any _ _ _ _).mono ?_); rintro e w1 ⟨rfl, hb⟩; obtain ⟨hc, hf⟩ := bcell hb)
      (have hz := below_size hb; simp at hz; exact bodyPost_ret (v := stepV 1 x 1 0) (by simp [results, Try.results75, go_sem, hc, hz]) rfl ⟨rfl, bel⟩)
    · obtain ⟨S, hS⟩ : ∃ S, nextU (x :: t) = S := ⟨_, rfl⟩
      rw [hS]
      have hS2 : tail0 x t = S := by rw [← hS, nextU_cons, if_neg h128]
      have HST : Hid (FindRel x t S (.int .i64 0)) := Lib.hid ⟨0, rfl, .inl ⟨rfl, hS2⟩⟩
      clear hS hS2
      have q0 := lead_at0
      have q1 := lead_at1
      have q2 := lead_at2
      have q3 := lead_at3
      have q4 := lead_at4
      have q5 := lead_at5
      have q6 := lead_at6
      have q7 := lead_at7
      go_enter Try.func75, Try.ntmps75
      go_wp2_with (go_at_call 78; (with_reducible refine (leads_any _).mono ?_); rintro e w1 ⟨rfl, hb1⟩; obtain ⟨hc1, hf1⟩ := bcell hb1)
      have hz1 := below_size hb1
      simp at hz1
      go_loopw [23] (fun vi wr => FindRel x t S vi ∧ Below w1.heap.size w1 wr) (fun vi _ => 8 - (intOf vi).toNat)
      case atStart => exact ⟨HST.out, Below.refl _ _⟩
      case round =>
        obtain ⟨⟨k, rfl, hk⟩, hbr⟩ := hrel
        obtain ⟨hcr, hfr⟩ := bcell hbr
        have hzr := below_size hbr
        have hq0 : w.heap.size < wr.heap.size := by omega
        have hq1 : w.heap.size + 1 < wr.heap.size := by omega
        have hq2 : w.heap.size + 1 < w1.heap.size := by omega
        have h0r : wr.cell? ⟨b, off, none⟩ = some (.int .u8 x) := by
          exact ((bcell (W := w) bel).1 b _ hlt).trans h0
        have hltr : b < wr.heap.size := by omega
        have HKR := Lib.hid (And.intro hzr hltr)
        rcases hk with ⟨rfl, hk⟩ | ⟨rfl, hk⟩ | ⟨rfl, hk⟩ | ⟨rfl, hk⟩ | ⟨rfl, hk⟩ | ⟨rfl, hk⟩ | ⟨rfl, hk⟩ | ⟨rfl, hk⟩ | ⟨rfl, hk⟩
        · by_cases h1 : 194 ≤ x
          · by_cases h2 : x ≤ 223
            · have HS : Hid (restS 2 1 ((x :: t).getD 0 0 % 32) 128 191 ((x :: t).drop 1) = S) := Lib.hid (by show restS 2 1 (x % 32) 128 191 t = S; rw [← hk, tail0, if_pos ⟨h1, h2⟩])
              clear hk
              go_wp2
              go_quiet (fail)
              go_wp2_with (go_at_call 79; (with_reducible refine (rest_2 _ _ _ _ b off n c (x :: t) _ ?hA ?hB hn HL.out HX.out hm S HS.out).mono ?_); (case hB => (simp; omega)); (case hA => exact fun i hi => ((bcell (W := w) bel).1 b _ hlt).trans (HCS.out i hi)); rintro e w2 ⟨rfl, hb2⟩; obtain ⟨hc2, hf2⟩ := bcell hb2)
              exact bodyPost_ret (v := S.val) (by simp [results, Try.results75, go_sem, hc2, hcr, hc1, hq0, hq1, hq2]) rfl ⟨rfl, bel⟩
            · have hS : tail1 x t = S := by rw [← hk, tail0, if_neg (by omega)]
              have HS := Lib.hid hS
              clear hk hS
              go_wp2
              go_quiet (fail)
              go_wp2
              exact ⟨⟨⟨1, rfl, .inr (.inl ⟨rfl, HS.out⟩)⟩, bel⟩, by simp [intOf]⟩
          · have hd1 : decide ((194 : Int) ≤ x) = false := by simpa using h1
            have hS : tail1 x t = S := by rw [← hk, tail0, if_neg (by omega)]
            have HS := Lib.hid hS
            clear hk hS
            go_wp2
            go_quiet (fail)
            go_wp2
            exact ⟨⟨⟨1, rfl, .inr (.inl ⟨rfl, HS.out⟩)⟩, bel⟩, by simp [intOf]⟩
        · by_cases h1 : 224 ≤ x
          · by_cases h2 : x ≤ 224
            · have HS : Hid (restS 3 2 ((x :: t).getD 0 0 % 16) 160 191 ((x :: t).drop 1) = S) := Lib.hid (by show restS 3 2 (x % 16) 160 191 t = S; rw [← hk, tail1, if_pos ⟨h1, h2⟩])
              clear hk
              go_wp2
              go_quiet (fail)
              go_wp2_with (go_at_call 79; (with_reducible refine (rest_3 _ _ _ _ b off n c (x :: t) _ ?hA ?hB hn HL.out HX.out hm S HS.out).mono ?_); (case hB => (simp; omega)); (case hA => exact fun i hi => ((bcell (W := w) bel).1 b _ hlt).trans (HCS.out i hi)); rintro e w2 ⟨rfl, hb2⟩; obtain ⟨hc2, hf2⟩ := bcell hb2)
              exact bodyPost_ret (v := S.val) (by simp [results, Try.results75, go_sem, hc2, hcr, hc1, hq0, hq1, hq2]) rfl ⟨rfl, bel⟩
            · have hS : tail2 x t = S := by rw [← hk, tail1, if_neg (by omega)]
              have HS := Lib.hid hS
              clear hk hS
              go_wp2
              go_quiet (fail)
              go_wp2
              exact ⟨⟨⟨2, rfl, .inr (.inr (.inl ⟨rfl, HS.out⟩))⟩, bel⟩, by simp [intOf]⟩
          · have hd1 : decide ((224 : Int) ≤ x) = false := by simpa using h1
            have hS : tail2 x t = S := by rw [← hk, tail1, if_neg (by omega)]
            have HS := Lib.hid hS
            clear hk hS
            go_wp2
            go_quiet (fail)
            go_wp2
            exact ⟨⟨⟨2, rfl, .inr (.inr (.inl ⟨rfl, HS.out⟩))⟩, bel⟩, by simp [intOf]⟩
        · by_cases h1 : 225 ≤ x
          · by_cases h2 : x ≤ 236
            · have HS : Hid (restS 3 2 ((x :: t).getD 0 0 % 16) 128 191 ((x :: t).drop 1) = S) := Lib.hid (by show restS 3 2 (x % 16) 128 191 t = S; rw [← hk, tail2, if_pos ⟨h1, h2⟩])
              clear hk
              go_wp2
              go_quiet (fail)
              go_wp2_with (go_at_call 79; (with_reducible refine (rest_3 _ _ _ _ b off n c (x :: t) _ ?hA ?hB hn HL.out HX.out hm S HS.out).mono ?_); (case hB => (simp; omega)); (case hA => exact fun i hi => ((bcell (W := w) bel).1 b _ hlt).trans (HCS.out i hi)); rintro e w2 ⟨rfl, hb2⟩; obtain ⟨hc2, hf2⟩ := bcell hb2)
              exact bodyPost_ret (v := S.val) (by simp [results, Try.results75, go_sem, hc2, hcr, hc1, hq0, hq1, hq2]) rfl ⟨rfl, bel⟩
            · have hS : tail3 x t = S := by rw [← hk, tail2, if_neg (by omega)]
              have HS := Lib.hid hS
              clear hk hS
              go_wp2
              go_quiet (fail)
              go_wp2
              exact ⟨⟨⟨3, rfl, .inr (.inr (.inr (.inl ⟨rfl, HS.out⟩)))⟩, bel⟩, by simp [intOf]⟩
          · have hd1 : decide ((225 : Int) ≤ x) = false := by simpa using h1
            have hS : tail3 x t = S := by rw [← hk, tail2, if_neg (by omega)]
            have HS := Lib.hid hS
            clear hk hS
            go_wp2
            go_quiet (fail)
            go_wp2
            exact ⟨⟨⟨3, rfl, .inr (.inr (.inr (.inl ⟨rfl, HS.out⟩)))⟩, bel⟩, by simp [intOf]⟩
        · by_cases h1 : 237 ≤ x
          · by_cases h2 : x ≤ 237
            · have HS : Hid (restS 3 2 ((x :: t).getD 0 0 % 16) 128 159 ((x :: t).drop 1) = S) := Lib.hid (by show restS 3 2 (x % 16) 128 159 t = S; rw [← hk, tail3, if_pos ⟨h1, h2⟩])
              clear hk
              go_wp2
              go_quiet (fail)
              go_wp2_with (go_at_call 79; (with_reducible refine (rest_3 _ _ _ _ b off n c (x :: t) _ ?hA ?hB hn HL.out HX.out hm S HS.out).mono ?_); (case hB => (simp; omega)); (case hA => exact fun i hi => ((bcell (W := w) bel).1 b _ hlt).trans (HCS.out i hi)); rintro e w2 ⟨rfl, hb2⟩; obtain ⟨hc2, hf2⟩ := bcell hb2)
              exact bodyPost_ret (v := S.val) (by simp [results, Try.results75, go_sem, hc2, hcr, hc1, hq0, hq1, hq2]) rfl ⟨rfl, bel⟩
            · have hS : tail4 x t = S := by rw [← hk, tail3, if_neg (by omega)]
              have HS := Lib.hid hS
              clear hk hS
              go_wp2
              go_quiet (fail)
              go_wp2
              exact ⟨⟨⟨4, rfl, .inr (.inr (.inr (.inr (.inl ⟨rfl, HS.out⟩))))⟩, bel⟩, by simp [intOf]⟩
          · have hd1 : decide ((237 : Int) ≤ x) = false := by simpa using h1
            have hS : tail4 x t = S := by rw [← hk, tail3, if_neg (by omega)]
            have HS := Lib.hid hS
            clear hk hS
            go_wp2
            go_quiet (fail)
            go_wp2
            exact ⟨⟨⟨4, rfl, .inr (.inr (.inr (.inr (.inl ⟨rfl, HS.out⟩))))⟩, bel⟩, by simp [intOf]⟩
        · by_cases h1 : 238 ≤ x
          · by_cases h2 : x ≤ 239
            · have HS : Hid (restS 3 2 ((x :: t).getD 0 0 % 16) 128 191 ((x :: t).drop 1) = S) := Lib.hid (by show restS 3 2 (x % 16) 128 191 t = S; rw [← hk, tail4, if_pos ⟨h1, h2⟩])
              clear hk
              go_wp2
              go_quiet (fail)
              go_wp2_with (go_at_call 79; (with_reducible refine (rest_3 _ _ _ _ b off n c (x :: t) _ ?hA ?hB hn HL.out HX.out hm S HS.out).mono ?_); (case hB => (simp; omega)); (case hA => exact fun i hi => ((bcell (W := w) bel).1 b _ hlt).trans (HCS.out i hi)); rintro e w2 ⟨rfl, hb2⟩; obtain ⟨hc2, hf2⟩ := bcell hb2)
              exact bodyPost_ret (v := S.val) (by simp [results, Try.results75, go_sem, hc2, hcr, hc1, hq0, hq1, hq2]) rfl ⟨rfl, bel⟩
            · have hS : tail5 x t = S := by rw [← hk, tail4, if_neg (by omega)]
              have HS := Lib.hid hS
              clear hk hS
              go_wp2
              go_quiet (fail)
              go_wp2
              exact ⟨⟨⟨5, rfl, .inr (.inr (.inr (.inr (.inr (.inl ⟨rfl, HS.out⟩)))))⟩, bel⟩, by simp [intOf]⟩
          · have hd1 : decide ((238 : Int) ≤ x) = false := by simpa using h1
            have hS : tail5 x t = S := by rw [← hk, tail4, if_neg (by omega)]
            have HS := Lib.hid hS
            clear hk hS
            go_wp2
            go_quiet (fail)
            go_wp2
            exact ⟨⟨⟨5, rfl, .inr (.inr (.inr (.inr (.inr (.inl ⟨rfl, HS.out⟩)))))⟩, bel⟩, by simp [intOf]⟩
        · by_cases h1 : 240 ≤ x
          · by_cases h2 : x ≤ 240
            · have HS : Hid (restS 4 3 ((x :: t).getD 0 0 % 8) 144 191 ((x :: t).drop 1) = S) := Lib.hid (by show restS 4 3 (x % 8) 144 191 t = S; rw [← hk, tail5, if_pos ⟨h1, h2⟩])
              clear hk
              go_wp2
              go_quiet (fail)
              go_wp2_with (go_at_call 79; (with_reducible refine (rest_4 _ _ _ _ b off n c (x :: t) _ ?hA ?hB hn HL.out HX.out hm S HS.out).mono ?_); (case hB => (simp; omega)); (case hA => exact fun i hi => ((bcell (W := w) bel).1 b _ hlt).trans (HCS.out i hi)); rintro e w2 ⟨rfl, hb2⟩; obtain ⟨hc2, hf2⟩ := bcell hb2)
              exact bodyPost_ret (v := S.val) (by simp [results, Try.results75, go_sem, hc2, hcr, hc1, hq0, hq1, hq2]) rfl ⟨rfl, bel⟩
            · have hS : tail6 x t = S := by rw [← hk, tail5, if_neg (by omega)]
              have HS := Lib.hid hS
              clear hk hS
              go_wp2
              go_quiet (fail)
              go_wp2
              exact ⟨⟨⟨6, rfl, .inr (.inr (.inr (.inr (.inr (.inr (.inl ⟨rfl, HS.out⟩))))))⟩, bel⟩, by simp [intOf]⟩
          · have hd1 : decide ((240 : Int) ≤ x) = false := by simpa using h1
            have hS : tail6 x t = S := by rw [← hk, tail5, if_neg (by omega)]
            have HS := Lib.hid hS
            clear hk hS
            go_wp2
            go_quiet (fail)
            go_wp2
            exact ⟨⟨⟨6, rfl, .inr (.inr (.inr (.inr (.inr (.inr (.inl ⟨rfl, HS.out⟩))))))⟩, bel⟩, by simp [intOf]⟩
        · by_cases h1 : 241 ≤ x
          · by_cases h2 : x ≤ 243
            · have HS : Hid (restS 4 3 ((x :: t).getD 0 0 % 8) 128 191 ((x :: t).drop 1) = S) := Lib.hid (by show restS 4 3 (x % 8) 128 191 t = S; rw [← hk, tail6, if_pos ⟨h1, h2⟩])
              clear hk
              go_wp2
              go_quiet (fail)
              go_wp2_with (go_at_call 79; (with_reducible refine (rest_4 _ _ _ _ b off n c (x :: t) _ ?hA ?hB hn HL.out HX.out hm S HS.out).mono ?_); (case hB => (simp; omega)); (case hA => exact fun i hi => ((bcell (W := w) bel).1 b _ hlt).trans (HCS.out i hi)); rintro e w2 ⟨rfl, hb2⟩; obtain ⟨hc2, hf2⟩ := bcell hb2)
              exact bodyPost_ret (v := S.val) (by simp [results, Try.results75, go_sem, hc2, hcr, hc1, hq0, hq1, hq2]) rfl ⟨rfl, bel⟩
            · have hS : tail7 x t = S := by rw [← hk, tail6, if_neg (by omega)]
              have HS := Lib.hid hS
              clear hk hS
              go_wp2
              go_quiet (fail)
              go_wp2
              exact ⟨⟨⟨7, rfl, .inr (.inr (.inr (.inr (.inr (.inr (.inr (.inl ⟨rfl, HS.out⟩)))))))⟩, bel⟩, by simp [intOf]⟩
          · have hd1 : decide ((241 : Int) ≤ x) = false := by simpa using h1
            have hS : tail7 x t = S := by rw [← hk, tail6, if_neg (by omega)]
            have HS := Lib.hid hS
            clear hk hS
            go_wp2
            go_quiet (fail)
            go_wp2
            exact ⟨⟨⟨7, rfl, .inr (.inr (.inr (.inr (.inr (.inr (.inr (.inl ⟨rfl, HS.out⟩)))))))⟩, bel⟩, by simp [intOf]⟩
        · by_cases h1 : 244 ≤ x
          · by_cases h2 : x ≤ 244
            · have HS : Hid (restS 4 3 ((x :: t).getD 0 0 % 8) 128 143 ((x :: t).drop 1) = S) := Lib.hid (by show restS 4 3 (x % 8) 128 143 t = S; rw [← hk, tail7, if_pos ⟨h1, h2⟩])
              clear hk
              go_wp2
              go_quiet (fail)
              go_wp2_with (go_at_call 79; (with_reducible refine (rest_4 _ _ _ _ b off n c (x :: t) _ ?hA ?hB hn HL.out HX.out hm S HS.out).mono ?_); (case hB => (simp; omega)); (case hA => exact fun i hi => ((bcell (W := w) bel).1 b _ hlt).trans (HCS.out i hi)); rintro e w2 ⟨rfl, hb2⟩; obtain ⟨hc2, hf2⟩ := bcell hb2)
              exact bodyPost_ret (v := S.val) (by simp [results, Try.results75, go_sem, hc2, hcr, hc1, hq0, hq1, hq2]) rfl ⟨rfl, bel⟩
            · have hS : tail8 x t = S := by rw [← hk, tail7, if_neg (by omega)]
              have HS := Lib.hid hS
              clear hk hS
              go_wp2
              go_quiet (fail)
              go_wp2
              exact ⟨⟨⟨8, rfl, .inr (.inr (.inr (.inr (.inr (.inr (.inr (.inr (⟨rfl, HS.out⟩))))))))⟩, bel⟩, by simp [intOf]⟩
          · have hd1 : decide ((244 : Int) ≤ x) = false := by simpa using h1
            have hS : tail8 x t = S := by rw [← hk, tail7, if_neg (by omega)]
            have HS := Lib.hid hS
            clear hk hS
            go_wp2
            go_quiet (fail)
            go_wp2
            exact ⟨⟨⟨8, rfl, .inr (.inr (.inr (.inr (.inr (.inr (.inr (.inr (⟨rfl, HS.out⟩))))))))⟩, bel⟩, by simp [intOf]⟩
        · have hS : Step.bad = S := hk
          subst hS
          clear hk
          go_wp2_with (go_at_call 72; (with_reducible refine (not_any _ _).mono ?_); rintro e w2 ⟨rfl, hb2⟩; obtain ⟨hc2, hf2⟩ := bcell hb2)
          exact bodyPost_ret (v := stepV 2 0 0 0) (by simp [results, Try.results75, go_sem, hc2, hcr, hc1, hq0, hq1, hq2]) rfl ⟨rfl, bel⟩
end Go.Proofs.Ytcekghcejmhhaaa

namespace Go.Proofs.Ytcekghcejmhhaaa
open Go.RowKit Go.Proofs.YtcekghcejmhhaaaW.PrintWords Go.Proofs.YtcekghcejmhhaaaW.PrintLast Go.Proofs.YtcekghcejmhhaaaW.PrintMore

theorem u32_and63 {x : Int} (h₀ : 0 ≤ x) (h₁ : x < 4294967296) : bits .and .u32 x 63 = x % 64 := bits_mask .u32 32 (by decide) wraps_u32 6 (by decide) x h₀ h₁

set_option maxHeartbeats 400000 in
theorem tail_0 (c : Int) (g : Nat) (w : World) (h0 : 0 ≤ c) (h1 : c < 4294967296) (hc : w.cell? ⟨g, 0, none⟩ = some (.int .u32 c)) :
    Calls Try.prog 80 #[.int .i64 0, .pointer (some ⟨g, 0, none⟩)] w fun r w' => r = .returned (.int .u8 (128 + c % 64)) ∧ w = w' := by
  have e1 := u32_and63 h0 h1
  have e2 : IntKind.u32.wrap c = c := wraps_u32 c h0 (by omega)
  go_enter Try.func80, Try.ntmps80
  go_wp2
  go_ret
  exact ⟨rfl, rfl⟩

set_option maxHeartbeats 400000 in
theorem tail_1 (c : Int) (g : Nat) (w : World) (h0 : 0 ≤ c) (h1 : c < 4294967296) (hc : w.cell? ⟨g, 0, none⟩ = some (.int .u32 c)) :
    Calls Try.prog 80 #[.int .i64 1, .pointer (some ⟨g, 0, none⟩)] w fun r w' => r = .returned (.int .u8 (128 + c / 64 % 64)) ∧ w = w' := by
  have e1 := u32_and63 (x := c / 64) (by omega) (by omega)
  go_enter Try.func80, Try.ntmps80
  go_wp2
  go_ret
  exact ⟨rfl, rfl⟩

set_option maxHeartbeats 400000 in
theorem tail_2 (c : Int) (g : Nat) (w : World) (h0 : 0 ≤ c) (h1 : c < 4294967296) (hc : w.cell? ⟨g, 0, none⟩ = some (.int .u32 c)) :
    Calls Try.prog 80 #[.int .i64 2, .pointer (some ⟨g, 0, none⟩)] w fun r w' => r = .returned (.int .u8 (128 + c / 4096 % 64)) ∧ w = w' := by
  have e1 := u32_and63 (x := c / 4096) (by omega) (by omega)
  go_enter Try.func80, Try.ntmps80
  go_wp2
  go_ret
  exact ⟨rfl, rfl⟩

set_option maxHeartbeats 400000 in
theorem utf8_put_a (s c : Int) (w : World) (h0 : 0 ≤ c) (h1 : c < 128) : Calls Try.prog 76 #[.agg #[], .int .i64 s, .int .u32 c] w fun r w' => ∃ v, r = .returned (.tuple #[v, .int .i64 (putC 2 s c).2]) ∧ OwnI .u8 5 w.heap.size w' v (putC 2 s c).1 ∧ Below w.heap.size w w' := by
  have hmf : ∀ (fn : Fn) (first cap : Array Value) (w : World), (Instr.makeFunc fn first cap).run Try.prog w = .ok (.func fn first cap) w := fun _ _ _ _ => rfl
  have HE : Hid (putC 2 s c = ([c], 0)) := Lib.hid (by simp [putC, h1]; omega)
  go_enter Try.func76, Try.ntmps76
  go_wp2
  go_ret2
  rw [HE.out]
  refine ⟨_, rfl, ?_, bel⟩
  exact R_fresh (k := .u8) _ (w.heap.size + 1 + 1) (by simp) [c] _ (by simp [nums]) _ (by simp) (by simp; omega) (by simp)

set_option maxRecDepth 100000 in
set_option maxHeartbeats 1000000 in
theorem utf8_put_b (s c : Int) (w : World) (h0 : 128 ≤ c) (h1 : c < 2048) : Calls Try.prog 76 #[.agg #[], .int .i64 s, .int .u32 c] w fun r w' => ∃ v, r = .returned (.tuple #[v, .int .i64 (putC 2 s c).2]) ∧ OwnI .u8 5 w.heap.size w' v (putC 2 s c).1 ∧ Below w.heap.size w w' := by
  have hmf : ∀ (fn : Fn) (first cap : Array Value) (w : World), (Instr.makeFunc fn first cap).run Try.prog w = .ok (.func fn first cap) w := fun _ _ _ _ => rfl
  have c0 : 0 ≤ c := by omega
  have c1 : c < 4294967296 := by omega
  have HE : Hid (putC 2 s c = ([192 + c / 64, 128 + c % 64], 0)) := Lib.hid (by rw [putC, if_neg (by omega), if_pos rfl]; repeat (first | rw [if_neg (by omega)] | rw [if_pos (by omega)]))
  go_enter Try.func76, Try.ntmps76
  go_wp2
  go_region_held3 (fun w' => w'.cell? ⟨w.heap.size + 1, 0, none⟩ = some (.int .u32 c)) (first | (go_keep; done)) ((first | (go_at_call_of 80 (Value.int IntKind.i64 0); (with_reducible refine (tail_0 c _ _ c0 c1 ?hcc).mono ?_); (case hcc => (go_split_ands; assumption)); rintro e w1 ⟨rfl, rfl⟩)))
  rename_i hHeld
  clear hHeld
  rw [show bits .or .u8 192 (IntKind.u8.wrap (c / 64)) = 192 + c / 64 from by rw [IntKind.wrap_u8, Int.emod_eq_of_lt (by omega) (by omega)]; exact u8_or192 _ (by omega) (by omega)]
  go_wp2
  go_ret2
  rw [HE.out]
  refine ⟨_, rfl, ?_, bel⟩
  exact Kd.R_drew (R_fresh (k := .u8) _ (w.heap.size + 1 + 1) (by simp) [192 + c / 64, 128 + c % 64] _ (by simp [nums]) _ (by simp) (by simp; omega) (by simp))

set_option maxRecDepth 100000 in
set_option maxHeartbeats 1000000 in
theorem utf8_put_c (s c : Int) (w : World) (h0 : 2048 ≤ c) (h1 : c < 65536) : Calls Try.prog 76 #[.agg #[], .int .i64 s, .int .u32 c] w fun r w' => ∃ v, r = .returned (.tuple #[v, .int .i64 (putC 2 s c).2]) ∧ OwnI .u8 5 w.heap.size w' v (putC 2 s c).1 ∧ Below w.heap.size w w' := by
  have hmf : ∀ (fn : Fn) (first cap : Array Value) (w : World), (Instr.makeFunc fn first cap).run Try.prog w = .ok (.func fn first cap) w := fun _ _ _ _ => rfl
  have c0 : 0 ≤ c := by omega
  have c1 : c < 4294967296 := by omega
  have HE : Hid (putC 2 s c = ([224 + c / 4096, 128 + c / 64 % 64, 128 + c % 64], 0)) := Lib.hid (by rw [putC, if_neg (by omega), if_pos rfl]; repeat (first | rw [if_neg (by omega)] | rw [if_pos (by omega)]))
  go_enter Try.func76, Try.ntmps76
  go_wp2
  go_region_held3 (fun w' => w'.cell? ⟨w.heap.size + 1, 0, none⟩ = some (.int .u32 c)) (first | (go_keep; done)) ((first | (go_at_call_of 80 (Value.int IntKind.i64 0); (with_reducible refine (tail_0 c _ _ c0 c1 ?hcc).mono ?_); (case hcc => (go_split_ands; assumption)); rintro e w1 ⟨rfl, rfl⟩) | (go_at_call_of 80 (Value.int IntKind.i64 1); (with_reducible refine (tail_1 c _ _ c0 c1 ?hcc).mono ?_); (case hcc => (go_split_ands; assumption)); rintro e w1 ⟨rfl, rfl⟩)))
  rename_i hHeld
  clear hHeld
  rw [show bits .or .u8 224 (IntKind.u8.wrap (c / 4096)) = 224 + c / 4096 from by rw [IntKind.wrap_u8, Int.emod_eq_of_lt (by omega) (by omega)]; exact u8_or224 _ (by omega) (by omega)]
  go_wp2
  go_ret2
  rw [HE.out]
  refine ⟨_, rfl, ?_, bel⟩
  exact Kd.R_drew (R_fresh (k := .u8) _ (w.heap.size + 1 + 1) (by simp) [224 + c / 4096, 128 + c / 64 % 64, 128 + c % 64] _ (by simp [nums]) _ (by simp) (by simp; omega) (by simp))

set_option maxRecDepth 100000 in
set_option maxHeartbeats 1000000 in
theorem utf8_put_d (s c : Int) (w : World) (h0 : 65536 ≤ c) (h1 : c ≤ 1114111) : Calls Try.prog 76 #[.agg #[], .int .i64 s, .int .u32 c] w fun r w' => ∃ v, r = .returned (.tuple #[v, .int .i64 (putC 2 s c).2]) ∧ OwnI .u8 5 w.heap.size w' v (putC 2 s c).1 ∧ Below w.heap.size w w' := by
  have hmf : ∀ (fn : Fn) (first cap : Array Value) (w : World), (Instr.makeFunc fn first cap).run Try.prog w = .ok (.func fn first cap) w := fun _ _ _ _ => rfl
  have c0 : 0 ≤ c := by omega
  have c1 : c < 4294967296 := by omega
  have HE : Hid (putC 2 s c = ([240 + c / 262144, 128 + c / 4096 % 64, 128 + c / 64 % 64, 128 + c % 64], 0)) := Lib.hid (by rw [putC, if_neg (by omega), if_pos rfl]; repeat (first | rw [if_neg (by omega)] | rw [if_pos (by omega)]))
  go_enter Try.func76, Try.ntmps76
  go_wp2
  go_region_held3 (fun w' => w'.cell? ⟨w.heap.size + 1, 0, none⟩ = some (.int .u32 c)) (first | (go_keep; done)) ((first | (go_at_call_of 80 (Value.int IntKind.i64 0); (with_reducible refine (tail_0 c _ _ c0 c1 ?hcc).mono ?_); (case hcc => (go_split_ands; assumption)); rintro e w1 ⟨rfl, rfl⟩) | (go_at_call_of 80 (Value.int IntKind.i64 1); (with_reducible refine (tail_1 c _ _ c0 c1 ?hcc).mono ?_); (case hcc => (go_split_ands; assumption)); rintro e w1 ⟨rfl, rfl⟩) | (go_at_call_of 80 (Value.int IntKind.i64 2); (with_reducible refine (tail_2 c _ _ c0 c1 ?hcc).mono ?_); (case hcc => (go_split_ands; assumption)); rintro e w1 ⟨rfl, rfl⟩)))
  rename_i hHeld
  clear hHeld
  rw [show bits .or .u8 240 (IntKind.u8.wrap (c / 262144)) = 240 + c / 262144 from by rw [IntKind.wrap_u8, Int.emod_eq_of_lt (by omega) (by omega)]; exact u8_or240 _ (by omega) (by omega)]
  go_wp2
  go_ret2
  rw [HE.out]
  refine ⟨_, rfl, ?_, bel⟩
  exact Kd.R_drew (R_fresh (k := .u8) _ (w.heap.size + 1 + 1) (by simp) [240 + c / 262144, 128 + c / 4096 % 64, 128 + c / 64 % 64, 128 + c % 64] _ (by simp [nums]) _ (by simp) (by simp; omega) (by simp))

theorem utf8_put (s c : Int) (w : World) (h0 : 0 ≤ c) (h1 : c ≤ 1114111) : Calls Try.prog 76 #[.agg #[], .int .i64 s, .int .u32 c] w fun r w' => ∃ v, r = .returned (.tuple #[v, .int .i64 (putC 2 s c).2]) ∧ OwnI .u8 5 w.heap.size w' v (putC 2 s c).1 ∧ Below w.heap.size w w' := by
  by_cases a : c < 128
  · exact utf8_put_a s c w h0 a
  · by_cases b : c < 2048
    · exact utf8_put_b s c w (by omega) b
    · by_cases d : c < 65536
      · exact utf8_put_c s c w (by omega) d
      · exact utf8_put_d s c w (by omega) h1

/-- 'joined': append to a row of the call's own. -/
theorem joined_any {w0 w : World} {v : Value} {xs : List Int} {A : Option Addr} {c : Nat} {ys : List Int} (hB : Below w0.heap.size w0 w) (ho : OwnI .u8 5 w0.heap.size w v xs)
    (hC : ∀ W, Kept w W (fun k => v.ownBlock = some k) → Kd.C (Kd.int .u8) W A ys.length ys) (hc : ys.length ≤ c) (hl : xs.length + ys.length < 140737488355328) :
    Calls Try.prog 42 #[v, .slice A ys.length c] w fun r w' => ∃ v', r = .returned v' ∧ OwnI .u8 5 w0.heap.size w' v' (xs ++ ys) ∧ Below w0.heap.size w0 w' := by
  have hR : Kd.R (Kd.int .u8) 5 w w0.heap.size (fun k => v.ownBlock = some k) v xs := ⟨fun k hk => hk, by
    obtain ⟨_, inner, h1, h2⟩ := ho
    exact ⟨inner, h1, h2⟩⟩
  refine (XBase.chars_joined.calls (fun k => v.ownBlock = some k) v xs A c ys (xs ++ ys) w0 w hB hR hC hc (by unfold XBase.chars_joined.f; rw [if_pos hl])).mono ?_
  rintro e w' ⟨v', he, hr, hb, _⟩
  exact ⟨v', he, Kd.R_mono hr (fun _ _ => trivial), hb⟩
end Go.Proofs.Ytcekghcejmhhaaa
