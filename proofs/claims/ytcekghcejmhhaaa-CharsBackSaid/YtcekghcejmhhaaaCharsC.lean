import Derived.Test.YtcekghcejmhhaaaCharsB
import Derived.Test.YtcekghcejmhhaaaCharsSpec
set_option linter.unusedSimpArgs false
set_option linter.unusedVariables false
set_option linter.unnecessarySimpa false
namespace Go.Proofs.Ytcekghcejmhhaaa
open Go.RowKit Go.Proofs.YtcekghcejmhhaaaW.PrintWords Go.Proofs.YtcekghcejmhhaaaW.PrintLast Go.Proofs.YtcekghcejmhhaaaW.PrintMore

@[go_sem] abbrev leadV (f t n s e : Int) : Value := .agg #[.int .u8 f, .int .u8 t, .int .i64 n, .int .u8 s, .int .u8 e]
@[go_sem] abbrev Step.val (s : Step) : Value := stepV s.kind s.ch s.bytes s.st

theorem wraps_u32 (n : Int) (h₀ : 0 ≤ n) (h₁ : n < 2 ^ 32) : IntKind.u32.wrap n = n := by rw [IntKind.wrap_u32]; omega
theorem u32_and31 {x : Int} (h₀ : 0 ≤ x) (h₁ : x < 4294967296) : bits .and .u32 x 31 = x % 32 := bits_mask .u32 32 (by decide) wraps_u32 5 (by decide) x h₀ h₁
theorem u32_and15 {x : Int} (h₀ : 0 ≤ x) (h₁ : x < 4294967296) : bits .and .u32 x 15 = x % 16 := bits_mask .u32 32 (by decide) wraps_u32 4 (by decide) x h₀ h₁
theorem u32_and7 {x : Int} (h₀ : 0 ≤ x) (h₁ : x < 4294967296) : bits .and .u32 x 7 = x % 8 := bits_mask .u32 32 (by decide) wraps_u32 3 (by decide) x h₀ h₁
theorem u32_or6 {x y : Int} (hx₀ : 0 ≤ x) (hx₁ : x * 64 < 4294967296) (h₀ : 0 ≤ y) (h₁ : y < 64) : bits .or .u32 (x * 64) y = x * 64 + y := by
  rw [u32_or _ _ (by omega) hx₁ h₀ (by omega), nat_join 6 _ _ (by omega) (by omega)]; omega

theorem rest_start {N : Nat} (hN : N = 2 ∨ N = 3 ∨ N = 4) {x0 : Int} (h0 : 0 ≤ x0) (h1 : x0 ≤ 255) : 0 ≤ x0 % 2 ^ (7 - N) ∧ x0 % 2 ^ (7 - N) < 32 := by
  rcases hN with rfl | rfl | rfl <;> simp <;> omega

def RestRel (N : Nat) (xs : List Int) (S : Step) (vc vl vh vi : Value) : Prop :=
  ∃ (k : Nat) (c lo hi : Int), 1 ≤ k ∧ k ≤ N ∧ k ≤ xs.length ∧ vi = .int .i64 k ∧ vc = .int .u32 c ∧ vl = .int .u8 lo ∧ vh = .int .u8 hi ∧ 0 ≤ c ∧
    (k = 1 → c < 32) ∧ (k = 2 → c < 2048) ∧ (k = 3 → c < 131072) ∧ restS N (N - k) c lo hi (xs.drop k) = S

theorem rest_step {N k n : Nat} {xs : List Int} {S : Step} {cc x : Int} (k1 : 1 ≤ k) (hkN : k < N) (hk : k < n) (hl : xs.length = n) (c0 : 0 ≤ cc) (xa : 0 ≤ x)
    (hB : (k = 1 → cc < 32) ∧ (k = 2 → cc < 2048) ∧ (k = 3 → cc < 131072)) (hR : restS N (N - (k + 1)) (cc * 64 + x % 64) 128 191 (xs.drop (k + 1)) = S) :
    RestRel N xs S (.int .u32 (cc * 64 + x % 64)) (.int .u8 128) (.int .u8 191) (.int .i64 (k + 1)) :=
  ⟨k + 1, _, _, _, by omega, by omega, by omega, rfl, rfl, rfl, rfl, by omega, by omega, by omega, by omega, hR⟩

set_option maxHeartbeats 8000000 in
theorem rest_any (N : Nat) (hN : N = 2 ∨ N = 3 ∨ N = 4) (f t s e : Int) (b off n c : Nat) (xs : List Int) (w : World) (hC : ∀ i, i < n → w.cell? ⟨b, off + i, none⟩ = some (.int .u8 (xs.getD i 0))) (hlt : b < w.heap.size) (hn : 0 < n)
    (hl : xs.length = n) (hx : ∀ i, 0 ≤ xs.getD i 0 ∧ xs.getD i 0 ≤ 255) (hm : n ≤ 9223372036854775807) (S : Step) (hS : restS N (N - 1) (xs.getD 0 0 % (2 ^ (7 - N))) s e (xs.drop 1) = S) :
    Calls Try.prog 79 #[leadV f t N s e, .slice (some ⟨b, off, none⟩) n c] w fun r w' => r = .returned S.val ∧ Below w.heap.size w w' := by
  have h0 : w.cell? ⟨b, off, none⟩ = some (.int .u8 (xs.getD 0 0)) := by simpa using hC 0 hn
  obtain ⟨x0a, x0b⟩ := hx 0
  have hst : RestRel N xs S (.int .u32 (xs.getD 0 0 % (2 ^ (7 - N)))) (.int .u8 s) (.int .u8 e) (.int .i64 1) :=
    ⟨1, _, s, e, by omega, by omega, by omega, rfl, rfl, rfl, rfl, (rest_start hN x0a x0b).1, fun _ => (rest_start hN x0a x0b).2, by omega, by omega, hS⟩
  have HC := Lib.hid hC
  have HX := Lib.hid hx
  have HL := Lib.hid hl
  have HST := Lib.hid hst
  clear hC hx hS hl hst
  generalize xs.getD 0 0 = x0 at *
  have HN : Hid (N = 2 ∨ N = 3 ∨ N = 4) := Lib.hid hN
  rcases hN with rfl | rfl | rfl
  · go_enter Try.func79, Try.ntmps79
    go_wp2
    go_quiet (fail)
    go_wp2
    go_quiet (fail)
    go_wp2
    first | rw [u32_and31 x0a (by omega)] | rw [u32_and15 x0a (by omega)] | rw [u32_and7 x0a (by omega)]
    go_loop [5, 6, 7, 8] (fun c l h i => RestRel _ xs S c l h i) (fun _ _ _ i => 4 - (intOf i).toNat)
    case atStart => exact HST.out
    case round =>
      obtain ⟨k, cc, lo, hi, k1, kN, kl, rfl, rfl, rfl, rfl, c0, b1, b2, b3, hR⟩ := hrel
      have HR := Lib.hid hR
      have HB := Lib.hid (And.intro b1 (And.intro b2 b3))
      clear hR b1 b2 b3
      have hnl := HL.out
      by_cases hkN : k < 2
      · by_cases hkn : k = n
        · subst hkn
          clear hnl
          have hS2 : Step.part = S := by
            have h := HR.out
            rw [List.drop_eq_nil_of_le (by have := HL.out; omega)] at h
            obtain ⟨r, hr⟩ : ∃ r, 2 - k = r + 1 := ⟨2 - k - 1, by omega⟩
            rw [hr] at h
            exact h
          subst hS2
          go_wp2_with (go_at_call 72; (with_reducible refine (not_any _ _).mono ?_); rintro e w1 ⟨rfl, hb⟩; obtain ⟨hc, hf⟩ := bcell hb)
          have hz := below_size hb
          simp at hz
          exact bodyPost_ret (v := stepV 3 0 0 0) (by simp [results, Try.results79, go_sem, hc, hz]) rfl ⟨rfl, (by repeat (first | with_reducible assumption | with_reducible exact Below.refl _ _ | with_reducible refine below_alloc ?_ _ | with_reducible refine pw_below_drewN ?_ _ | with_reducible refine below_drew1 ?_ | ((with_reducible refine below_set ?_ ?hle); (case hle => first | (simp; done) | omega | (simp; omega))) | with_reducible refine below_step ?_ (by assumption)))⟩
        · have hlt2 : k < n := by omega
          have t1 : ((k : Int) == (n : Int)) = false := by simp; omega
          have hcell := HC.out k hlt2
          obtain ⟨xa, xb⟩ := HX.out k
          clear hnl
          have hR2 : (if xs.getD k 0 < lo then Step.bad else if hi < xs.getD k 0 then Step.bad else restS 2 (2 - (k + 1)) (cc * 64 + xs.getD k 0 % 64) 128 191 (xs.drop (k + 1))) = S := by
            have h := HR.out
            rw [List.drop_eq_getElem_cons (by have := HL.out; omega)] at h
            obtain ⟨r, hr⟩ : ∃ r, 2 - k = r + 1 := ⟨2 - k - 1, by omega⟩
            have hr2 : 2 - (k + 1) = r := by omega
            rw [hr] at h
            rw [hr2, List.getD_eq_getElem?_getD, List.getElem?_eq_getElem (by have := HL.out; omega)]
            exact h
          generalize xs.getD k 0 = x at *
          by_cases ha : x < lo
          · rw [if_pos ha] at hR2
            subst hR2
            go_wp2_with (go_at_call 72; (with_reducible refine (not_any _ _).mono ?_); rintro e w1 ⟨rfl, hb⟩; obtain ⟨hc, hf⟩ := bcell hb)
            have hz := below_size hb
            simp at hz
            exact bodyPost_ret (v := stepV 2 0 0 0) (by simp [results, Try.results79, go_sem, hc, hz]) rfl ⟨rfl, (by repeat (first | with_reducible assumption | with_reducible exact Below.refl _ _ | with_reducible refine below_alloc ?_ _ | with_reducible refine pw_below_drewN ?_ _ | with_reducible refine below_drew1 ?_ | ((with_reducible refine below_set ?_ ?hle); (case hle => first | (simp; done) | omega | (simp; omega))) | with_reducible refine below_step ?_ (by assumption)))⟩
          · rw [if_neg ha] at hR2
            by_cases hb' : hi < x
            · rw [if_pos hb'] at hR2
              subst hR2
              go_wp2_with (go_at_call 72; (with_reducible refine (not_any _ _).mono ?_); rintro e w1 ⟨rfl, hb⟩; obtain ⟨hc, hf⟩ := bcell hb)
              have hz := below_size hb
              simp at hz
              exact bodyPost_ret (v := stepV 2 0 0 0) (by simp [results, Try.results79, go_sem, hc, hz]) rfl ⟨rfl, (by repeat (first | with_reducible assumption | with_reducible exact Below.refl _ _ | with_reducible refine below_alloc ?_ _ | with_reducible refine pw_below_drewN ?_ _ | with_reducible refine below_drew1 ?_ | ((with_reducible refine below_set ?_ ?hle); (case hle => first | (simp; done) | omega | (simp; omega))) | with_reducible refine below_step ?_ (by assumption)))⟩
            · rw [if_neg hb'] at hR2
              have HR2 := Lib.hid hR2
              clear hR2
              have cb : cc < 131072 := by have := HB.out; omega
              go_wp2
              refine ⟨⟨_, _, _, _, ?_, rfl, rfl, rfl, rfl⟩, by simp [intOf]; omega⟩
              rw [u32_or6 c0 (by omega) (by omega) (by omega)]
              exact rest_step k1 hkN hlt2 HL.out c0 xa HB.out HR2.out
      · have hk2 : k = 2 := by omega
        subst hk2
        have hR2 : Step.mk 1 cc 2 0 = S := HR.out
        subst hR2
        clear hnl
        go_wp2_with (go_at_call 73; (with_reducible refine (whole_any _ _ _ _).mono ?_); rintro e w1 ⟨rfl, hb⟩; obtain ⟨hc, hf⟩ := bcell hb)
        have hz := below_size hb
        simp at hz
        exact bodyPost_ret (v := stepV 1 cc 2 0) (by simp [results, Try.results79, go_sem, hc, hz]) rfl ⟨rfl, (by repeat (first | with_reducible assumption | with_reducible exact Below.refl _ _ | with_reducible refine below_alloc ?_ _ | with_reducible refine pw_below_drewN ?_ _ | with_reducible refine below_drew1 ?_ | ((with_reducible refine below_set ?_ ?hle); (case hle => first | (simp; done) | omega | (simp; omega))) | with_reducible refine below_step ?_ (by assumption)))⟩
  · go_enter Try.func79, Try.ntmps79
    go_wp2
    go_quiet (fail)
    go_wp2
    go_quiet (fail)
    go_wp2
    first | rw [u32_and31 x0a (by omega)] | rw [u32_and15 x0a (by omega)] | rw [u32_and7 x0a (by omega)]
    go_loop [5, 6, 7, 8] (fun c l h i => RestRel _ xs S c l h i) (fun _ _ _ i => 4 - (intOf i).toNat)
    case atStart => exact HST.out
    case round =>
      obtain ⟨k, cc, lo, hi, k1, kN, kl, rfl, rfl, rfl, rfl, c0, b1, b2, b3, hR⟩ := hrel
      have HR := Lib.hid hR
      have HB := Lib.hid (And.intro b1 (And.intro b2 b3))
      clear hR b1 b2 b3
      have hnl := HL.out
      by_cases hkN : k < 3
      · by_cases hkn : k = n
        · subst hkn
          clear hnl
          have hS2 : Step.part = S := by
            have h := HR.out
            rw [List.drop_eq_nil_of_le (by have := HL.out; omega)] at h
            obtain ⟨r, hr⟩ : ∃ r, 3 - k = r + 1 := ⟨3 - k - 1, by omega⟩
            rw [hr] at h
            exact h
          subst hS2
          go_wp2_with (go_at_call 72; (with_reducible refine (not_any _ _).mono ?_); rintro e w1 ⟨rfl, hb⟩; obtain ⟨hc, hf⟩ := bcell hb)
          have hz := below_size hb
          simp at hz
          exact bodyPost_ret (v := stepV 3 0 0 0) (by simp [results, Try.results79, go_sem, hc, hz]) rfl ⟨rfl, (by repeat (first | with_reducible assumption | with_reducible exact Below.refl _ _ | with_reducible refine below_alloc ?_ _ | with_reducible refine pw_below_drewN ?_ _ | with_reducible refine below_drew1 ?_ | ((with_reducible refine below_set ?_ ?hle); (case hle => first | (simp; done) | omega | (simp; omega))) | with_reducible refine below_step ?_ (by assumption)))⟩
        · have hlt2 : k < n := by omega
          have t1 : ((k : Int) == (n : Int)) = false := by simp; omega
          have hcell := HC.out k hlt2
          obtain ⟨xa, xb⟩ := HX.out k
          clear hnl
          have hR2 : (if xs.getD k 0 < lo then Step.bad else if hi < xs.getD k 0 then Step.bad else restS 3 (3 - (k + 1)) (cc * 64 + xs.getD k 0 % 64) 128 191 (xs.drop (k + 1))) = S := by
            have h := HR.out
            rw [List.drop_eq_getElem_cons (by have := HL.out; omega)] at h
            obtain ⟨r, hr⟩ : ∃ r, 3 - k = r + 1 := ⟨3 - k - 1, by omega⟩
            have hr2 : 3 - (k + 1) = r := by omega
            rw [hr] at h
            rw [hr2, List.getD_eq_getElem?_getD, List.getElem?_eq_getElem (by have := HL.out; omega)]
            exact h
          generalize xs.getD k 0 = x at *
          by_cases ha : x < lo
          · rw [if_pos ha] at hR2
            subst hR2
            go_wp2_with (go_at_call 72; (with_reducible refine (not_any _ _).mono ?_); rintro e w1 ⟨rfl, hb⟩; obtain ⟨hc, hf⟩ := bcell hb)
            have hz := below_size hb
            simp at hz
            exact bodyPost_ret (v := stepV 2 0 0 0) (by simp [results, Try.results79, go_sem, hc, hz]) rfl ⟨rfl, (by repeat (first | with_reducible assumption | with_reducible exact Below.refl _ _ | with_reducible refine below_alloc ?_ _ | with_reducible refine pw_below_drewN ?_ _ | with_reducible refine below_drew1 ?_ | ((with_reducible refine below_set ?_ ?hle); (case hle => first | (simp; done) | omega | (simp; omega))) | with_reducible refine below_step ?_ (by assumption)))⟩
          · rw [if_neg ha] at hR2
            by_cases hb' : hi < x
            · rw [if_pos hb'] at hR2
              subst hR2
              go_wp2_with (go_at_call 72; (with_reducible refine (not_any _ _).mono ?_); rintro e w1 ⟨rfl, hb⟩; obtain ⟨hc, hf⟩ := bcell hb)
              have hz := below_size hb
              simp at hz
              exact bodyPost_ret (v := stepV 2 0 0 0) (by simp [results, Try.results79, go_sem, hc, hz]) rfl ⟨rfl, (by repeat (first | with_reducible assumption | with_reducible exact Below.refl _ _ | with_reducible refine below_alloc ?_ _ | with_reducible refine pw_below_drewN ?_ _ | with_reducible refine below_drew1 ?_ | ((with_reducible refine below_set ?_ ?hle); (case hle => first | (simp; done) | omega | (simp; omega))) | with_reducible refine below_step ?_ (by assumption)))⟩
            · rw [if_neg hb'] at hR2
              have HR2 := Lib.hid hR2
              clear hR2
              have cb : cc < 131072 := by have := HB.out; omega
              go_wp2
              refine ⟨⟨_, _, _, _, ?_, rfl, rfl, rfl, rfl⟩, by simp [intOf]; omega⟩
              rw [u32_or6 c0 (by omega) (by omega) (by omega)]
              exact rest_step k1 hkN hlt2 HL.out c0 xa HB.out HR2.out
      · have hk2 : k = 3 := by omega
        subst hk2
        have hR2 : Step.mk 1 cc 3 0 = S := HR.out
        subst hR2
        clear hnl
        go_wp2_with (go_at_call 73; (with_reducible refine (whole_any _ _ _ _).mono ?_); rintro e w1 ⟨rfl, hb⟩; obtain ⟨hc, hf⟩ := bcell hb)
        have hz := below_size hb
        simp at hz
        exact bodyPost_ret (v := stepV 1 cc 3 0) (by simp [results, Try.results79, go_sem, hc, hz]) rfl ⟨rfl, (by repeat (first | with_reducible assumption | with_reducible exact Below.refl _ _ | with_reducible refine below_alloc ?_ _ | with_reducible refine pw_below_drewN ?_ _ | with_reducible refine below_drew1 ?_ | ((with_reducible refine below_set ?_ ?hle); (case hle => first | (simp; done) | omega | (simp; omega))) | with_reducible refine below_step ?_ (by assumption)))⟩
  · go_enter Try.func79, Try.ntmps79
    go_wp2
    go_quiet (fail)
    go_wp2
    go_quiet (fail)
    go_wp2
    first | rw [u32_and31 x0a (by omega)] | rw [u32_and15 x0a (by omega)] | rw [u32_and7 x0a (by omega)]
    go_loop [5, 6, 7, 8] (fun c l h i => RestRel _ xs S c l h i) (fun _ _ _ i => 4 - (intOf i).toNat)
    case atStart => exact HST.out
    case round =>
      obtain ⟨k, cc, lo, hi, k1, kN, kl, rfl, rfl, rfl, rfl, c0, b1, b2, b3, hR⟩ := hrel
      have HR := Lib.hid hR
      have HB := Lib.hid (And.intro b1 (And.intro b2 b3))
      clear hR b1 b2 b3
      have hnl := HL.out
      by_cases hkN : k < 4
      · by_cases hkn : k = n
        · subst hkn
          clear hnl
          have hS2 : Step.part = S := by
            have h := HR.out
            rw [List.drop_eq_nil_of_le (by have := HL.out; omega)] at h
            obtain ⟨r, hr⟩ : ∃ r, 4 - k = r + 1 := ⟨4 - k - 1, by omega⟩
            rw [hr] at h
            exact h
          subst hS2
          go_wp2_with (go_at_call 72; (with_reducible refine (not_any _ _).mono ?_); rintro e w1 ⟨rfl, hb⟩; obtain ⟨hc, hf⟩ := bcell hb)
          have hz := below_size hb
          simp at hz
          exact bodyPost_ret (v := stepV 3 0 0 0) (by simp [results, Try.results79, go_sem, hc, hz]) rfl ⟨rfl, (by repeat (first | with_reducible assumption | with_reducible exact Below.refl _ _ | with_reducible refine below_alloc ?_ _ | with_reducible refine pw_below_drewN ?_ _ | with_reducible refine below_drew1 ?_ | ((with_reducible refine below_set ?_ ?hle); (case hle => first | (simp; done) | omega | (simp; omega))) | with_reducible refine below_step ?_ (by assumption)))⟩
        · have hlt2 : k < n := by omega
          have t1 : ((k : Int) == (n : Int)) = false := by simp; omega
          have hcell := HC.out k hlt2
          obtain ⟨xa, xb⟩ := HX.out k
          clear hnl
          have hR2 : (if xs.getD k 0 < lo then Step.bad else if hi < xs.getD k 0 then Step.bad else restS 4 (4 - (k + 1)) (cc * 64 + xs.getD k 0 % 64) 128 191 (xs.drop (k + 1))) = S := by
            have h := HR.out
            rw [List.drop_eq_getElem_cons (by have := HL.out; omega)] at h
            obtain ⟨r, hr⟩ : ∃ r, 4 - k = r + 1 := ⟨4 - k - 1, by omega⟩
            have hr2 : 4 - (k + 1) = r := by omega
            rw [hr] at h
            rw [hr2, List.getD_eq_getElem?_getD, List.getElem?_eq_getElem (by have := HL.out; omega)]
            exact h
          generalize xs.getD k 0 = x at *
          by_cases ha : x < lo
          · rw [if_pos ha] at hR2
            subst hR2
            go_wp2_with (go_at_call 72; (with_reducible refine (not_any _ _).mono ?_); rintro e w1 ⟨rfl, hb⟩; obtain ⟨hc, hf⟩ := bcell hb)
            have hz := below_size hb
            simp at hz
            exact bodyPost_ret (v := stepV 2 0 0 0) (by simp [results, Try.results79, go_sem, hc, hz]) rfl ⟨rfl, (by repeat (first | with_reducible assumption | with_reducible exact Below.refl _ _ | with_reducible refine below_alloc ?_ _ | with_reducible refine pw_below_drewN ?_ _ | with_reducible refine below_drew1 ?_ | ((with_reducible refine below_set ?_ ?hle); (case hle => first | (simp; done) | omega | (simp; omega))) | with_reducible refine below_step ?_ (by assumption)))⟩
          · rw [if_neg ha] at hR2
            by_cases hb' : hi < x
            · rw [if_pos hb'] at hR2
              subst hR2
              go_wp2_with (go_at_call 72; (with_reducible refine (not_any _ _).mono ?_); rintro e w1 ⟨rfl, hb⟩; obtain ⟨hc, hf⟩ := bcell hb)
              have hz := below_size hb
              simp at hz
              exact bodyPost_ret (v := stepV 2 0 0 0) (by simp [results, Try.results79, go_sem, hc, hz]) rfl ⟨rfl, (by repeat (first | with_reducible assumption | with_reducible exact Below.refl _ _ | with_reducible refine below_alloc ?_ _ | with_reducible refine pw_below_drewN ?_ _ | with_reducible refine below_drew1 ?_ | ((with_reducible refine below_set ?_ ?hle); (case hle => first | (simp; done) | omega | (simp; omega))) | with_reducible refine below_step ?_ (by assumption)))⟩
            · rw [if_neg hb'] at hR2
              have HR2 := Lib.hid hR2
              clear hR2
              have cb : cc < 131072 := by have := HB.out; omega
              go_wp2
              refine ⟨⟨_, _, _, _, ?_, rfl, rfl, rfl, rfl⟩, by simp [intOf]; omega⟩
              rw [u32_or6 c0 (by omega) (by omega) (by omega)]
              exact rest_step k1 hkN hlt2 HL.out c0 xa HB.out HR2.out
      · have hk2 : k = 4 := by omega
        subst hk2
        have hR2 : Step.mk 1 cc 4 0 = S := HR.out
        subst hR2
        clear hnl
        go_wp2_with (go_at_call 73; (with_reducible refine (whole_any _ _ _ _).mono ?_); rintro e w1 ⟨rfl, hb⟩; obtain ⟨hc, hf⟩ := bcell hb)
        have hz := below_size hb
        simp at hz
        exact bodyPost_ret (v := stepV 1 cc 4 0) (by simp [results, Try.results79, go_sem, hc, hz]) rfl ⟨rfl, (by repeat (first | with_reducible assumption | with_reducible exact Below.refl _ _ | with_reducible refine below_alloc ?_ _ | with_reducible refine pw_below_drewN ?_ _ | with_reducible refine below_drew1 ?_ | ((with_reducible refine below_set ?_ ?hle); (case hle => first | (simp; done) | omega | (simp; omega))) | with_reducible refine below_step ?_ (by assumption)))⟩
end Go.Proofs.Ytcekghcejmhhaaa
