/- The specification's Format, Power and sums, of numbers. The specification's Valid, Has, Encode of data: what they return, of numbers. The specification's number. The specification's Mul, number and ValidInt, in the form of externs. The specification's at, Bit, Zeros. nat: division, in plain numbers: what a product takes off a row; the estimate of one element of a quotient. nat: a product with one element is taken off a part of a row. -/
import Derived.Test.YtacnkcojhlbkoaaGreatDoorJVal20
import Derived.Test.YtacnkcojhlbkoaaGreatDoorJVal21
import Derived.Test.YtacnkcojhlbkoaaGreatDoorJVal8
import Derived.Test.YtacnkcojhlbkoaaGreatDoorJVal9
import Derived.Test.YtacnkcojhlbkoaaGreatDoorJVal3
import Derived.Test.YtacnkcojhlbkoaaGreatDoorJVal5
import Derived.Test.YtacnkcojhlbkoaaGreatDoorJVal4
import Derived.Test.YtacnkcojhlbkoaaGreatDoorJVal7
set_option linter.unusedSimpArgs false
set_option linter.unusedVariables false
set_option linter.unnecessarySimpa false
namespace Go.Proofs.YtacnkcojhlbkoaaGreatDoor
open Go.RowKit Go.Proofs.YtacnkcojhlbkoaaGreatDoorW.PrintWords Go.Proofs.YtacnkcojhlbkoaaGreatDoorW.PrintLast Go.Proofs.YtacnkcojhlbkoaaGreatDoorW.PrintMore Go.Proofs.YtacnkcojhlbkoaaGreatDoor.NL
set_option maxRecDepth 100000
set_option exponentiation.threshold 33000

theorem new_gives {N : Nat} {w : World} {e : Ending} {w' : World} (h : NewRow w (ofN N) e w') : Gives N w e w' := by
  obtain ⟨v, rfl, hv, hb⟩ := h
  obtain ⟨A, c, rfl⟩ := Kd.R_slice hv
  exact ⟨A, _, c, rfl, Lib.hid ⟨(R_C hv).2, (R_C hv).1⟩, hb⟩
theorem rformat {f : Int} (hf : isFm f = true) (w : World) : Calls Tryz.prog 17 #[.int .i64 f] w fun e w'' => e = .returned (.agg #[.int .i64 (fmD f), .int .i64 (fmE f), .int .i64 (fmL f), .int .i64 (fmH f), .int .i64 (fmW f)]) ∧ Below w.heap.size w w'' := by
  refine XAr.sorobanref05_Format.calls f (fmD f) (fmE f) (fmL f) (fmH f) (fmW f) w ?_
  rcases fm_cases hf with rfl | rfl | rfl | rfl | rfl <;> rfl
theorem rpower {s : Nat} (w : World) (hs : s ≤ 1000) : Calls Tryz.prog 56 #[.int .i64 (s : Nat)] w (Gives (2 ^ s) w) := by
  refine (XBitz.sorobanref05_Power.calls (s : Nat) (ofN (2 ^ s)) w ?_).mono fun e w' h => new_gives h
  have h1 : val [1] = 1 := by decide
  have h2 : u32L [1] = true := by decide
  unfold XBitz.sorobanref05_Power.f sorobanref01_Shl.f
  rw [h1, h2, decide_eq_true ⟨by simp, by simp, by omega, by omega⟩, Int.toNat_natCast, Nat.one_mul]; rfl
theorem rofn {q : Nat} (w : World) (h : q < 18446744073709551616) : Calls Tryz.prog 71 #[.int .u64 (q : Nat)] w (Gives q w) := by
  have := rof_gives (q : Nat) w (by simp only [u64B, decide_eq_true_eq]; omega)
  rwa [Int.toNat_natCast] at this
end Go.Proofs.YtacnkcojhlbkoaaGreatDoor

set_option linter.unusedSimpArgs false
set_option linter.unusedVariables false
set_option linter.unnecessarySimpa false
namespace Go.Proofs.YtacnkcojhlbkoaaGreatDoor
open Go.RowKit Go.Proofs.YtacnkcojhlbkoaaGreatDoorW.PrintWords Go.Proofs.YtacnkcojhlbkoaaGreatDoorW.PrintLast Go.Proofs.YtacnkcojhlbkoaaGreatDoorW.PrintMore Go.Proofs.YtacnkcojhlbkoaaGreatDoor.NL
set_option maxRecDepth 100000
set_option exponentiation.threshold 33000

set_option maxHeartbeats 1000000 in
theorem rvalid_any (A : Option Addr) (n c : Nat) (a : List Int) (w : World) (hA : Kd.C (Kd.int .u32) w A n a) (la : Lim a) :
    Calls Tryz.prog 37 #[.slice A n c] w fun e w' => e = .returned (.bool (okN a)) ∧ w = w' := by
  have hl : a.length = n := hA.1
  by_cases h1 : n ≤ 1024
  · rcases Nat.eq_zero_or_pos n with h0 | h0
    · subst h0
      have : a = [] := List.eq_nil_of_length_eq_zero hl
      subst this
      rw [okN_nil]
      clear hA hl
      go_enter Tryz.func37, Tryz.ntmps37
      go_wp2
      go_ret
      exact ⟨rfl, rfl⟩
    · obtain ⟨j, rfl⟩ : ∃ j, n = j + 1 := ⟨n - 1, by omega⟩
      obtain ⟨b, off, rfl, hlt, hcs⟩ := open_C hA (by omega)
      have hcell := hcs j (by omega)
      have hv : okN a = decide (a.getD j 0 ≠ 0) := by
        unfold okN
        rw [hl]
        simp only [top_snoc hl, h1, true_and]
      obtain ⟨x0, x1⟩ := lim_getD la j
      clear hcs hA
      have HL := Lib.hid hl
      generalize a.getD j 0 = x at *
      have t0 : (((j : Int) + 1) == 0) = false := by simp; omega
      have hj1 : ((j : Int) + 1 - 1) = (j : Int) := by omega
      rw [hv]
      clear hv hl
      by_cases hx : x = 0
      · subst hx
        go_enter Tryz.func37, Tryz.ntmps37
        go_wp2
        go_ret
        exact ⟨rfl, rfl⟩
      · have t1 : (x == 0) = false := by simpa using hx
        have t2 : (x != 0) = true := by simpa using hx
        have hdx : decide (x ≠ 0) = true := decide_eq_true hx
        rw [hdx]
        clear hx hdx
        go_enter Tryz.func37, Tryz.ntmps37
        go_wp2
        go_ret
        exact ⟨rfl, rfl⟩
  · have hv : okN a = false := by unfold okN; rw [hl]; simp [h1]
    rw [hv]
    have d0 : decide (n ≤ 1024) = false := decide_eq_false h1
    clear hA hv hl
    go_enter Tryz.func37, Tryz.ntmps37
    go_wp2
    go_ret
    exact ⟨rfl, rfl⟩

theorem risf_any (f : Int) (w : World) : Calls Tryz.prog 16 #[.int .i64 f] w fun e w' => e = .returned (.bool (isFm f)) ∧ Below w.heap.size w w' := by
  by_cases h1 : 1 ≤ f
  · have d1 : decide (f ≥ 1) = true := decide_eq_true h1
    by_cases h2 : f ≤ 5
    · have hv : isFm f = true := decide_eq_true ⟨h1, h2⟩
      go_enter Tryz.func16, Tryz.ntmps16
      go_wp2
      all_goals
        go_ret
        exact ⟨by simp [hv]; try omega, bel⟩
    · have hv : isFm f = false := decide_eq_false (fun h => h2 h.2)
      go_enter Tryz.func16, Tryz.ntmps16
      go_wp2
      all_goals
        go_ret
        exact ⟨by simp [hv]; try omega, bel⟩
  · have hv : isFm f = false := decide_eq_false (fun h => h1 h.1)
    have d1 : decide (f ≥ 1) = false := decide_eq_false h1
    go_enter Tryz.func16, Tryz.ntmps16
    go_wp2
    all_goals
      go_ret
      exact ⟨by simp [hv]; try omega, bel⟩
theorem rbits_len {A : Option Addr} {n c : Nat} {a : List Int} (w : World) (hA : Kd.C (Kd.int .u32) w A n a) (la : Lim a) (hc : n ≤ c) (hok : okN a = true) :
    Calls Tryz.prog 33 #[.slice A n c] w fun e w' => e = .returned (.int .i64 (blen (val a))) ∧ Below w.heap.size w w' := by
  obtain rfl : a.length = n := hA.1
  refine sorobanref01_Bits.calls A c a _ w hA hc ?_
  unfold sorobanref01_Bits.f
  rw [u32L_mk la, hok]; rfl
theorem rbelow_any {A : Option Addr} {n c : Nat} {a : List Int} (d : Int) (w : World) (hA : Kd.C (Kd.int .u32) w A n a) (la : Lim a) (hc : n ≤ c) (hok : okN a = true) :
    Calls Tryz.prog 38 #[.slice A n c, .int .i64 d] w fun e w' => e = .returned (.bool (decide ((blen (val a) : Int) ≤ d))) ∧ Below w.heap.size w w' := by
  have HB := Lib.hid fun w' (h : Below w.heap.size w w') => rbits_len w' (Kd.C_below hA h) la hc hok
  clear hA hc la hok
  generalize blen (val a) = z at *
  go_enter Tryz.func38, Tryz.ntmps38
  go_wp2_with (first | (go_at_call 33; (with_reducible refine (HB.out _ bel).mono ?_); rintro e w1 ⟨rfl, b1⟩; obtain ⟨hc1, hf1⟩ := bcell b1; (try simp only [dr_size, dr_cell] at hc1); (try simp only [dr_size, dr_frozen] at hf1); have hz1 := below_size b1; (try simp at hz1); (try have z01 : w.heap.size < w1.heap.size := (by omega))))
  all_goals
    go_ret
    exact ⟨rfl, bel⟩
set_option maxHeartbeats 8000000 in
theorem rval_core (D E L H W f cl : Int) (ng : Bool) (A : Option Addr) (n c : Nat) (z : Nat) (ex : Int) (w : World) (hD : 2 ≤ D ∧ D ≤ 1000) (hnz : n = 0 ↔ z = 0)
    (hi : ∀ w', Calls Tryz.prog 16 #[.int .i64 f] w' fun e w'' => e = .returned (.bool true) ∧ Below w'.heap.size w' w'')
    (hv : ∀ w', Below w.heap.size w w' → Calls Tryz.prog 37 #[.slice A n c] w' fun e w'' => e = .returned (.bool true) ∧ w' = w'')
    (hfo : ∀ w', Calls Tryz.prog 17 #[.int .i64 f] w' fun e w'' => e = .returned (.agg #[.int .i64 D, .int .i64 E, .int .i64 L, .int .i64 H, .int .i64 W]) ∧ Below w'.heap.size w' w'')
    (hbl : ∀ d w', Below w.heap.size w w' → Calls Tryz.prog 38 #[.slice A n c, .int .i64 d] w' fun e w'' => e = .returned (.bool (decide ((z : Int) ≤ d))) ∧ Below w'.heap.size w' w'') :
    Calls Tryz.prog 7 #[dV f cl ng A n c ex] w fun e w' => e = .returned (.bool (fits D L H cl z ex)) ∧ Below w.heap.size w w' := by
  have HIF := Lib.hid hi
  have HV := Lib.hid hv
  have HFO := Lib.hid hfo
  have HBL := Lib.hid hbl
  obtain ⟨hd1, hd2⟩ := hD
  clear hv hi hfo hbl
  by_cases c1 : cl = 1
  · subst c1
    go_enter Tryz.func7, Tryz.ntmps7
    go_wp2_with (first | (go_at_call 16; (with_reducible refine (HIF.out _).mono ?_); rintro e w1 ⟨rfl, b1⟩; obtain ⟨hc1, hf1⟩ := bcell b1; (try simp only [dr_size, dr_cell] at hc1); (try simp only [dr_size, dr_frozen] at hf1); have hz1 := below_size b1; (try simp at hz1); (try have z01 : w.heap.size < w1.heap.size := (by omega)); (try have z11 : w.heap.size + 1 < w1.heap.size := (by omega))) | (go_at_call 37; (with_reducible refine (HV.out _ bel).mono ?_); rintro e w9 ⟨rfl, rfl⟩) | (go_at_call 17; (with_reducible refine (HFO.out _).mono ?_); rintro e w2 ⟨rfl, b2⟩; obtain ⟨hc2, hf2⟩ := bcell b2; (try simp only [dr_size, dr_cell] at hc2); (try simp only [dr_size, dr_frozen] at hf2); have hz2 := below_size b2; (try simp at hz2); (try have z02 : w.heap.size < w2.heap.size := (by omega)); (try have z12 : w.heap.size + 1 < w2.heap.size := (by omega)); (try have yw12 : w1.heap.size < w2.heap.size := (by omega))) | (go_at_call 38; (with_reducible refine (HBL.out _ _ bel).mono ?_); rintro e w3 ⟨rfl, b3⟩; obtain ⟨hc3, hf3⟩ := bcell b3; (try simp only [dr_size, dr_cell] at hc3); (try simp only [dr_size, dr_frozen] at hf3); have hz3 := below_size b3; (try simp at hz3); (try have z03 : w.heap.size < w3.heap.size := (by omega)); (try have z13 : w.heap.size + 1 < w3.heap.size := (by omega)); (try have yw13 : w1.heap.size < w3.heap.size := (by omega)); (try have yw23 : w2.heap.size < w3.heap.size := (by omega))) | (go_at_call 38; (with_reducible refine (HBL.out _ _ bel).mono ?_); rintro e w4 ⟨rfl, b4⟩; obtain ⟨hc4, hf4⟩ := bcell b4; (try simp only [dr_size, dr_cell] at hc4); (try simp only [dr_size, dr_frozen] at hf4); have hz4 := below_size b4; (try simp at hz4); (try have z04 : w.heap.size < w4.heap.size := (by omega)); (try have z14 : w.heap.size + 1 < w4.heap.size := (by omega)); (try have yw14 : w1.heap.size < w4.heap.size := (by omega)); (try have yw24 : w2.heap.size < w4.heap.size := (by omega)); (try have yw34 : w3.heap.size < w4.heap.size := (by omega))))
    all_goals
      go_ret
      refine ⟨?_, bel⟩
      simp [fits, *] <;> first | omega | (rw [Bool.eq_iff_iff]; simp [*]; done) | (rw [Bool.eq_iff_iff]; simp; omega)
  · by_cases c2 : cl = 2
    · subst c2
      go_enter Tryz.func7, Tryz.ntmps7
      go_wp2_with (first | (go_at_call 16; (with_reducible refine (HIF.out _).mono ?_); rintro e w1 ⟨rfl, b1⟩; obtain ⟨hc1, hf1⟩ := bcell b1; (try simp only [dr_size, dr_cell] at hc1); (try simp only [dr_size, dr_frozen] at hf1); have hz1 := below_size b1; (try simp at hz1); (try have z01 : w.heap.size < w1.heap.size := (by omega)); (try have z11 : w.heap.size + 1 < w1.heap.size := (by omega))) | (go_at_call 37; (with_reducible refine (HV.out _ bel).mono ?_); rintro e w9 ⟨rfl, rfl⟩) | (go_at_call 17; (with_reducible refine (HFO.out _).mono ?_); rintro e w2 ⟨rfl, b2⟩; obtain ⟨hc2, hf2⟩ := bcell b2; (try simp only [dr_size, dr_cell] at hc2); (try simp only [dr_size, dr_frozen] at hf2); have hz2 := below_size b2; (try simp at hz2); (try have z02 : w.heap.size < w2.heap.size := (by omega)); (try have z12 : w.heap.size + 1 < w2.heap.size := (by omega)); (try have yw12 : w1.heap.size < w2.heap.size := (by omega))) | (go_at_call 38; (with_reducible refine (HBL.out _ _ bel).mono ?_); rintro e w3 ⟨rfl, b3⟩; obtain ⟨hc3, hf3⟩ := bcell b3; (try simp only [dr_size, dr_cell] at hc3); (try simp only [dr_size, dr_frozen] at hf3); have hz3 := below_size b3; (try simp at hz3); (try have z03 : w.heap.size < w3.heap.size := (by omega)); (try have z13 : w.heap.size + 1 < w3.heap.size := (by omega)); (try have yw13 : w1.heap.size < w3.heap.size := (by omega)); (try have yw23 : w2.heap.size < w3.heap.size := (by omega))) | (go_at_call 38; (with_reducible refine (HBL.out _ _ bel).mono ?_); rintro e w4 ⟨rfl, b4⟩; obtain ⟨hc4, hf4⟩ := bcell b4; (try simp only [dr_size, dr_cell] at hc4); (try simp only [dr_size, dr_frozen] at hf4); have hz4 := below_size b4; (try simp at hz4); (try have z04 : w.heap.size < w4.heap.size := (by omega)); (try have z14 : w.heap.size + 1 < w4.heap.size := (by omega)); (try have yw14 : w1.heap.size < w4.heap.size := (by omega)); (try have yw24 : w2.heap.size < w4.heap.size := (by omega)); (try have yw34 : w3.heap.size < w4.heap.size := (by omega))))
      all_goals
        go_ret
        refine ⟨?_, bel⟩
        simp [fits, *] <;> first | omega | (rw [Bool.eq_iff_iff]; simp [*]; done) | (rw [Bool.eq_iff_iff]; simp; omega)
    · by_cases c3 : cl = 3
      · subst c3
        go_enter Tryz.func7, Tryz.ntmps7
        go_wp2_with (first | (go_at_call 16; (with_reducible refine (HIF.out _).mono ?_); rintro e w1 ⟨rfl, b1⟩; obtain ⟨hc1, hf1⟩ := bcell b1; (try simp only [dr_size, dr_cell] at hc1); (try simp only [dr_size, dr_frozen] at hf1); have hz1 := below_size b1; (try simp at hz1); (try have z01 : w.heap.size < w1.heap.size := (by omega)); (try have z11 : w.heap.size + 1 < w1.heap.size := (by omega))) | (go_at_call 37; (with_reducible refine (HV.out _ bel).mono ?_); rintro e w9 ⟨rfl, rfl⟩) | (go_at_call 17; (with_reducible refine (HFO.out _).mono ?_); rintro e w2 ⟨rfl, b2⟩; obtain ⟨hc2, hf2⟩ := bcell b2; (try simp only [dr_size, dr_cell] at hc2); (try simp only [dr_size, dr_frozen] at hf2); have hz2 := below_size b2; (try simp at hz2); (try have z02 : w.heap.size < w2.heap.size := (by omega)); (try have z12 : w.heap.size + 1 < w2.heap.size := (by omega)); (try have yw12 : w1.heap.size < w2.heap.size := (by omega))) | (go_at_call 38; (with_reducible refine (HBL.out _ _ bel).mono ?_); rintro e w3 ⟨rfl, b3⟩; obtain ⟨hc3, hf3⟩ := bcell b3; (try simp only [dr_size, dr_cell] at hc3); (try simp only [dr_size, dr_frozen] at hf3); have hz3 := below_size b3; (try simp at hz3); (try have z03 : w.heap.size < w3.heap.size := (by omega)); (try have z13 : w.heap.size + 1 < w3.heap.size := (by omega)); (try have yw13 : w1.heap.size < w3.heap.size := (by omega)); (try have yw23 : w2.heap.size < w3.heap.size := (by omega))) | (go_at_call 38; (with_reducible refine (HBL.out _ _ bel).mono ?_); rintro e w4 ⟨rfl, b4⟩; obtain ⟨hc4, hf4⟩ := bcell b4; (try simp only [dr_size, dr_cell] at hc4); (try simp only [dr_size, dr_frozen] at hf4); have hz4 := below_size b4; (try simp at hz4); (try have z04 : w.heap.size < w4.heap.size := (by omega)); (try have z14 : w.heap.size + 1 < w4.heap.size := (by omega)); (try have yw14 : w1.heap.size < w4.heap.size := (by omega)); (try have yw24 : w2.heap.size < w4.heap.size := (by omega)); (try have yw34 : w3.heap.size < w4.heap.size := (by omega))))
        all_goals
          go_ret
          refine ⟨?_, bel⟩
          simp [fits, *] <;> first | omega | (rw [Bool.eq_iff_iff]; simp [*]; done) | (rw [Bool.eq_iff_iff]; simp; omega)
      · by_cases c4 : cl = 4
        · subst c4
          go_enter Tryz.func7, Tryz.ntmps7
          go_wp2_with (first | (go_at_call 16; (with_reducible refine (HIF.out _).mono ?_); rintro e w1 ⟨rfl, b1⟩; obtain ⟨hc1, hf1⟩ := bcell b1; (try simp only [dr_size, dr_cell] at hc1); (try simp only [dr_size, dr_frozen] at hf1); have hz1 := below_size b1; (try simp at hz1); (try have z01 : w.heap.size < w1.heap.size := (by omega)); (try have z11 : w.heap.size + 1 < w1.heap.size := (by omega))) | (go_at_call 37; (with_reducible refine (HV.out _ bel).mono ?_); rintro e w9 ⟨rfl, rfl⟩) | (go_at_call 17; (with_reducible refine (HFO.out _).mono ?_); rintro e w2 ⟨rfl, b2⟩; obtain ⟨hc2, hf2⟩ := bcell b2; (try simp only [dr_size, dr_cell] at hc2); (try simp only [dr_size, dr_frozen] at hf2); have hz2 := below_size b2; (try simp at hz2); (try have z02 : w.heap.size < w2.heap.size := (by omega)); (try have z12 : w.heap.size + 1 < w2.heap.size := (by omega)); (try have yw12 : w1.heap.size < w2.heap.size := (by omega))) | (go_at_call 38; (with_reducible refine (HBL.out _ _ bel).mono ?_); rintro e w3 ⟨rfl, b3⟩; obtain ⟨hc3, hf3⟩ := bcell b3; (try simp only [dr_size, dr_cell] at hc3); (try simp only [dr_size, dr_frozen] at hf3); have hz3 := below_size b3; (try simp at hz3); (try have z03 : w.heap.size < w3.heap.size := (by omega)); (try have z13 : w.heap.size + 1 < w3.heap.size := (by omega)); (try have yw13 : w1.heap.size < w3.heap.size := (by omega)); (try have yw23 : w2.heap.size < w3.heap.size := (by omega))) | (go_at_call 38; (with_reducible refine (HBL.out _ _ bel).mono ?_); rintro e w4 ⟨rfl, b4⟩; obtain ⟨hc4, hf4⟩ := bcell b4; (try simp only [dr_size, dr_cell] at hc4); (try simp only [dr_size, dr_frozen] at hf4); have hz4 := below_size b4; (try simp at hz4); (try have z04 : w.heap.size < w4.heap.size := (by omega)); (try have z14 : w.heap.size + 1 < w4.heap.size := (by omega)); (try have yw14 : w1.heap.size < w4.heap.size := (by omega)); (try have yw24 : w2.heap.size < w4.heap.size := (by omega)); (try have yw34 : w3.heap.size < w4.heap.size := (by omega))))
          all_goals
            go_ret
            refine ⟨?_, bel⟩
            simp [fits, *] <;> first | omega | (rw [Bool.eq_iff_iff]; simp [*]; done) | (rw [Bool.eq_iff_iff]; simp; omega)
        · have t1 : (cl == 1) = false := by simpa using c1
          have t2 : (cl == 2) = false := by simpa using c2
          have t3 : (cl == 3) = false := by simpa using c3
          have t4 : (cl == 4) = false := by simpa using c4
          have HF : Hid (fits D L H cl z ex = false) := Lib.hid (by unfold fits; rw [if_neg c1, if_neg c2, if_neg c3, if_neg c4])
          clear c1 c2 c3 c4
          go_enter Tryz.func7, Tryz.ntmps7
          go_wp2_with (first | (go_at_call 16; (with_reducible refine (HIF.out _).mono ?_); rintro e w1 ⟨rfl, b1⟩; obtain ⟨hc1, hf1⟩ := bcell b1; (try simp only [dr_size, dr_cell] at hc1); (try simp only [dr_size, dr_frozen] at hf1); have hz1 := below_size b1; (try simp at hz1); (try have z01 : w.heap.size < w1.heap.size := (by omega)); (try have z11 : w.heap.size + 1 < w1.heap.size := (by omega))) | (go_at_call 37; (with_reducible refine (HV.out _ bel).mono ?_); rintro e w9 ⟨rfl, rfl⟩) | (go_at_call 17; (with_reducible refine (HFO.out _).mono ?_); rintro e w2 ⟨rfl, b2⟩; obtain ⟨hc2, hf2⟩ := bcell b2; (try simp only [dr_size, dr_cell] at hc2); (try simp only [dr_size, dr_frozen] at hf2); have hz2 := below_size b2; (try simp at hz2); (try have z02 : w.heap.size < w2.heap.size := (by omega)); (try have z12 : w.heap.size + 1 < w2.heap.size := (by omega)); (try have yw12 : w1.heap.size < w2.heap.size := (by omega))) | (go_at_call 38; (with_reducible refine (HBL.out _ _ bel).mono ?_); rintro e w3 ⟨rfl, b3⟩; obtain ⟨hc3, hf3⟩ := bcell b3; (try simp only [dr_size, dr_cell] at hc3); (try simp only [dr_size, dr_frozen] at hf3); have hz3 := below_size b3; (try simp at hz3); (try have z03 : w.heap.size < w3.heap.size := (by omega)); (try have z13 : w.heap.size + 1 < w3.heap.size := (by omega)); (try have yw13 : w1.heap.size < w3.heap.size := (by omega)); (try have yw23 : w2.heap.size < w3.heap.size := (by omega))) | (go_at_call 38; (with_reducible refine (HBL.out _ _ bel).mono ?_); rintro e w4 ⟨rfl, b4⟩; obtain ⟨hc4, hf4⟩ := bcell b4; (try simp only [dr_size, dr_cell] at hc4); (try simp only [dr_size, dr_frozen] at hf4); have hz4 := below_size b4; (try simp at hz4); (try have z04 : w.heap.size < w4.heap.size := (by omega)); (try have z14 : w.heap.size + 1 < w4.heap.size := (by omega)); (try have yw14 : w1.heap.size < w4.heap.size := (by omega)); (try have yw24 : w2.heap.size < w4.heap.size := (by omega)); (try have yw34 : w3.heap.size < w4.heap.size := (by omega))))
          all_goals
            go_ret
            exact ⟨by rw [HF.out]; rfl, bel⟩
set_option maxHeartbeats 4000000 in
theorem rval_any {f cl ex : Int} {ng : Bool} {A : Option Addr} {n c : Nat} {a : List Int} (w : World) (hA : Kd.C (Kd.int .u32) w A n a) (la : Lim a) (hc : n ≤ c) :
    Calls Tryz.prog 7 #[dV f cl ng A n c ex] w fun e w' => e = .returned (.bool (datOk f cl a ex)) ∧ Below w.heap.size w w' := by
  have HIF := Lib.hid fun w' => risf_any f w'
  have HV := Lib.hid fun w' (h : Below w.heap.size w w') => rvalid_any A n c a w' (Kd.C_below hA h) la
  unfold datOk hasB
  cases hf : isFm f with
  | false =>
    rw [hf] at HIF
    rw [Bool.false_and]
    clear hA hf
    go_enter Tryz.func7, Tryz.ntmps7
    go_wp2_with (first | (go_at_call 16; (with_reducible refine (HIF.out _).mono ?_); rintro e w1 ⟨rfl, b1⟩; obtain ⟨hc1, hf1⟩ := bcell b1; (try simp only [dr_size, dr_cell] at hc1); (try simp only [dr_size, dr_frozen] at hf1); have hz1 := below_size b1; (try simp at hz1); (try have z01 : w.heap.size < w1.heap.size := (by omega)); (try have z11 : w.heap.size + 1 < w1.heap.size := (by omega))))
    all_goals
      go_ret
      exact ⟨rfl, bel⟩
  | true =>
    rw [hf] at HIF
    cases hok : okN a with
    | false =>
      rw [hok] at HV
      rw [Bool.false_and, Bool.and_false]
      clear hA hf hok
      go_enter Tryz.func7, Tryz.ntmps7
      go_wp2_with (first | (go_at_call 16; (with_reducible refine (HIF.out _).mono ?_); rintro e w1 ⟨rfl, b1⟩; obtain ⟨hc1, hf1⟩ := bcell b1; (try simp only [dr_size, dr_cell] at hc1); (try simp only [dr_size, dr_frozen] at hf1); have hz1 := below_size b1; (try simp at hz1); (try have z01 : w.heap.size < w1.heap.size := (by omega)); (try have z11 : w.heap.size + 1 < w1.heap.size := (by omega))) | (go_at_call 37; (with_reducible refine (HV.out _ bel).mono ?_); rintro e w9 ⟨rfl, rfl⟩))
      all_goals
        go_ret
        exact ⟨rfl, bel⟩
    | true =>
      rw [hok] at HV
      rw [Bool.true_and, Bool.true_and]
      have hl : a.length = n := hA.1
      refine rval_core _ (fmE f) _ _ (fmW f) f cl ng A n c _ ex w ?_ ?_ HIF.out HV.out (fun w' => rformat hf w') (fun d w' h => rbelow_any d w' (Kd.C_below hA h) la hc hok)
      · rcases fm_cases hf with rfl | rfl | rfl | rfl | rfl <;> decide
      · rw [blen_eq_zero, ← hl]
        constructor
        · intro h
          rw [List.eq_nil_of_length_eq_zero h]; rfl
        · intro h
          rw [← ofN_val la (okN_iff.1 hok).2, h, ofN_zero]; rfl
def sorobanref05_Valid.f (a0_0 a0_1 : Int) (a0_2 : Bool) (l0_3 : List Int) (a0_4 : Int) : Option Bool := if u32L l0_3 then some (datOk a0_0 a0_1 l0_3 a0_4) else none
theorem sorobanref05_Valid.calls (a0_0 a0_1 : Int) (a0_2 : Bool) (A0_3 : Option Addr) (c0_3 : Nat) (l0_3 : List Int) (a0_4 : Int) (r : Bool) (w : World) (hr0_3 : Kd.C (Kd.int .u32) w A0_3 l0_3.length l0_3) (hc0_3 : l0_3.length ≤ c0_3) (h : sorobanref05_Valid.f a0_0 a0_1 a0_2 l0_3 a0_4 = some r) :
    Calls Tryz.prog 7 #[.agg #[.int .i64 a0_0, .int .i64 a0_1, .bool a0_2, .slice A0_3 l0_3.length c0_3, .int .i64 a0_4]] w fun e w' => e = .returned (.bool r) ∧ Below w.heap.size w w' := by
  unfold sorobanref05_Valid.f at h
  split at h
  · rename_i hb
    simp only [Option.some.injEq] at h
    subst h
    exact rval_any w hr0_3 (u32L_of hb) hc0_3
  · cases h
end Go.Proofs.YtacnkcojhlbkoaaGreatDoor

set_option linter.unusedSimpArgs false
set_option linter.unusedVariables false
set_option linter.unnecessarySimpa false
namespace Go.Proofs.YtacnkcojhlbkoaaGreatDoor
open Go.RowKit Go.Proofs.YtacnkcojhlbkoaaGreatDoorW.PrintWords Go.Proofs.YtacnkcojhlbkoaaGreatDoorW.PrintLast Go.Proofs.YtacnkcojhlbkoaaGreatDoorW.PrintMore Go.Proofs.YtacnkcojhlbkoaaGreatDoor.NL
set_option maxRecDepth 100000
set_option exponentiation.threshold 33000

set_option maxHeartbeats 1000000 in
theorem rnumber_any {q : Nat} {A : Option Addr} {n c : Nat} (w : World) (hq : q < 4294967296) (h : Kd.C (Kd.int .u32) w A n (ofN q)) :
    Calls Tryz.prog 69 #[.slice A n c] w fun e w' => e = .returned (.int .i64 (q : Nat)) ∧ Below w.heap.size w w' := by
  by_cases h0 : q = 0
  · subst h0
    have hn : n = 0 := by rw [← h.1, ofN_zero]; rfl
    subst hn
    clear h hq
    go_enter Tryz.func69, Tryz.ntmps69
    go_wp2
    all_goals
      go_ret
      exact ⟨rfl, bel⟩
  · have h1 : ofN q = [(q : Int)] := by
      have := ofN_val (l := [(q : Int)]) (by intro x hx; simp at hx; omega) (by unfold Top; simp; omega)
      rw [← this]; congr 1
    rw [h1] at h
    have hn : n = 1 := h.1.symm
    subst hn
    obtain ⟨b, off, rfl, hlt, hcs⟩ := open_C h (by omega)
    have hcell := hcs 0 (by omega)
    simp only [Nat.add_zero, List.getD_cons_zero] at hcell
    clear h h1 hcs
    go_enter Tryz.func69, Tryz.ntmps69
    go_wp2
    all_goals
      go_ret
      refine ⟨?_, bel⟩
      first | rfl | (congr 2; (try rw [IntKind.wrap_i64]); omega) | (simp; (try rw [IntKind.wrap_i64]); omega)
end Go.Proofs.YtacnkcojhlbkoaaGreatDoor

set_option linter.unusedSimpArgs false
set_option linter.unusedVariables false
set_option linter.unnecessarySimpa false
namespace Go.Proofs.YtacnkcojhlbkoaaGreatDoor
open Go.RowKit Go.Proofs.YtacnkcojhlbkoaaGreatDoorW.PrintWords Go.Proofs.YtacnkcojhlbkoaaGreatDoorW.PrintLast Go.Proofs.YtacnkcojhlbkoaaGreatDoorW.PrintMore Go.Proofs.YtacnkcojhlbkoaaGreatDoor.NL
set_option maxRecDepth 100000

def sorobanref05_ValidInt.f (a0_0 : Bool) (l0_1 : List Int) : Option Bool := if u32L l0_1 then some (okN l0_1 && (!a0_0 || decide (0 < l0_1.length))) else none
theorem sorobanref05_ValidInt.calls (a0_0 : Bool) (A0_1 : Option Addr) (c0_1 : Nat) (l0_1 : List Int) (r : Bool) (w : World) (hr0_1 : Kd.C (Kd.int .u32) w A0_1 l0_1.length l0_1) (hc0_1 : l0_1.length ≤ c0_1) (h : sorobanref05_ValidInt.f a0_0 l0_1 = some r) :
    Calls Tryz.prog 24 #[.agg #[.bool a0_0, .slice A0_1 l0_1.length c0_1]] w fun e w' => e = .returned (.bool r) ∧ Below w.heap.size w w' := by
  unfold sorobanref05_ValidInt.f at h
  split at h
  · rename_i hb
    simp only [Option.some.injEq] at h
    subst h
    refine (rvint_any (b := okN l0_1) w (Lib.hid fun w' hbl => (rvalid_any A0_1 _ c0_1 l0_1 w' (Kd.C_below hr0_1 hbl) (u32L_of hb)).mono ?_)).mono ?_
    · rintro e w2 ⟨rfl, rfl⟩
      exact ⟨rfl, Below.refl _ _⟩
    · rintro e w2 ⟨rfl, h2⟩
      refine ⟨?_, h2⟩
      have hq : decide ((l0_1.length : Int) > 0) = decide (0 < l0_1.length) := decide_eq_decide.2 ⟨fun h => by omega, fun h => by omega⟩
      rw [hq]
  · cases h
def sorobanref01_Mul.f (l0 l1 : List Int) : Option (List Int) := if (u32L l0 && u32L l1) && decide (l0.length ≤ 100000 ∧ l1.length ≤ 100000) then some (ofN (val l0 * val l1)) else none
theorem sorobanref01_Mul.calls (A0 : Option Addr) (c0 : Nat) (l0 : List Int) (A1 : Option Addr) (c1 : Nat) (l1 : List Int) (r : List Int) (w : World) (hr0 : Kd.C (Kd.int .u32) w A0 l0.length l0) (hc0 : l0.length ≤ c0) (hr1 : Kd.C (Kd.int .u32) w A1 l1.length l1) (hc1 : l1.length ≤ c1) (h : sorobanref01_Mul.f l0 l1 = some r) :
    Calls Tryz.prog 70 #[.slice A0 l0.length c0, .slice A1 l1.length c1] w fun e w' => ∃ v0_ : Value, e = .returned (v0_) ∧ Kd.R (Kd.int .u32) 40 w' w.heap.size (fun _ => True) v0_ r ∧ Below w.heap.size w w' := by
  unfold sorobanref01_Mul.f at h
  split at h
  · rename_i hb
    simp only [Bool.and_eq_true, decide_eq_true_eq] at hb
    simp only [Option.some.injEq] at h
    subst h
    exact rmul_any A0 A1 _ _ c0 c1 l0 l1 w hr0 hr1 (u32L_of hb.1.1) (u32L_of hb.1.2) (by omega) (by omega)
  · cases h
end Go.Proofs.YtacnkcojhlbkoaaGreatDoor

set_option linter.unusedSimpArgs false
set_option linter.unusedVariables false
set_option linter.unnecessarySimpa false
namespace Go.Proofs.YtacnkcojhlbkoaaGreatDoor
open Go.RowKit Go.Proofs.YtacnkcojhlbkoaaGreatDoorW.PrintWords Go.Proofs.YtacnkcojhlbkoaaGreatDoorW.PrintLast Go.Proofs.YtacnkcojhlbkoaaGreatDoorW.PrintMore Go.Proofs.YtacnkcojhlbkoaaGreatDoor.NL
set_option maxRecDepth 100000

set_option maxHeartbeats 1000000 in
theorem rat_any (A : Option Addr) (n c : Nat) (a : List Int) (i : Nat) (w : World) (hC : Kd.C (Kd.int .u32) w A n a) (la : Lim a) (hn : n ≤ 9223372036854775807) (hi : i ≤ 9223372036854775807) :
    Calls Tryz.prog 83 #[.slice A n c, .int .i64 i] w fun e w' => e = .returned (.int .u64 (a.getD i 0)) ∧ w = w' := by
  have hl : a.length = n := hC.1
  by_cases h : i < n
  · obtain ⟨b, off, rfl, hlt, hcs⟩ := open_C hC (by omega)
    have hcell := hcs i h
    have hx : 0 ≤ a.getD i 0 ∧ a.getD i 0 < 4294967296 := la _ (by rw [List.getD_eq_getElem?_getD, List.getElem?_eq_getElem (by omega)]; exact List.getElem_mem _)
    obtain ⟨x0, x1⟩ := hx
    clear hcs hC
    have HL := Lib.hid hl
    clear hl
    generalize a.getD i 0 = x at *
    go_enter Tryz.func83, Tryz.ntmps83
    go_wp2
    go_ret
    exact ⟨rfl, rfl⟩
  · have hx : a.getD i 0 = 0 := by rw [List.getD_eq_getElem?_getD, List.getElem?_eq_none (by omega)]; rfl
    rw [hx]
    have HL := Lib.hid hl
    clear hl hC hx
    have hd : n ≤ i := by omega
    go_enter Tryz.func83, Tryz.ntmps83
    go_wp2
    go_ret
    exact ⟨rfl, rfl⟩
theorem bit_val {a : List Int} (la : Lim a) (k : Nat) : a.getD (k / 32) 0 / 2 ^ (k % 32) % 2 = ((val a / 2 ^ k % 2 : Nat) : Int) := by
  have h1 := digit la (k / 32)
  obtain ⟨h2, -⟩ := lim_getD la (k / 32)
  obtain ⟨x, hx⟩ := Int.eq_ofNat_of_zero_le h2
  rw [hx] at h1 ⊢
  simp only [Int.toNat_natCast] at h1
  have e : val a / 2 ^ k % 2 = x / 2 ^ (k % 32) % 2 := by
    have hr : k % 32 < 32 := Nat.mod_lt _ (by omega)
    rw [h1, show (4294967296 : Nat) = 2 ^ (k % 32) * 2 ^ (32 - k % 32) by rw [← Nat.pow_add, show k % 32 + (32 - k % 32) = 32 by omega], Nat.mod_mul_right_div_self, Nat.mod_mod_of_dvd _ (Nat.pow_dvd_pow 2 (show 1 ≤ 32 - k % 32 by omega)), Nat.div_div_eq_div_mul, W_two, ← Nat.pow_add, show 32 * (k / 32) + k % 32 = k by omega]
  rw [e]
  simp
theorem bit_below {n k : Nat} (h0 : n ≠ 0) (hk : k < tz n) : n / 2 ^ k % 2 = 0 := by
  obtain ⟨m, -, hm⟩ := tz_spec h0
  obtain ⟨t, ht⟩ : ∃ t, tz n = k + (t + 1) := ⟨tz n - k - 1, by omega⟩
  rw [ht, Nat.pow_add, Nat.mul_left_comm] at hm
  rw [hm, Nat.mul_div_cancel_left _ (Nat.two_pow_pos k), Nat.pow_succ, ← Nat.mul_assoc, Nat.mul_mod_left]
theorem bit_tz {n : Nat} (h0 : n ≠ 0) : n / 2 ^ tz n % 2 = 1 := by
  obtain ⟨m, h1, hm⟩ := tz_spec h0
  have : n / 2 ^ tz n = m := by
    conv => lhs; arg 1; rw [hm]
    exact Nat.mul_div_cancel _ (Nat.two_pow_pos _)
  rw [this, h1]
theorem tz_le_len {n k : Nat} (h0 : n ≠ 0) (h : n < 2 ^ k) : tz n ≤ k := by
  obtain ⟨m, h1, hm⟩ := tz_spec h0
  have h2 : 2 ^ tz n ≤ n := by
    conv => rhs; rw [hm]
    exact Nat.le_mul_of_pos_left _ (by omega)
  exact Nat.le_of_lt ((Nat.pow_lt_pow_iff_right (by omega)).1 (Nat.lt_of_le_of_lt h2 h))
set_option maxHeartbeats 1000000 in
theorem rbit_any (A : Option Addr) (n c : Nat) (a : List Int) (k : Nat) (w : World) (hC : Kd.C (Kd.int .u32) w A n a) (la : Lim a) (hn : n ≤ 1000000000) (hk : k ≤ 1000000000000) :
    Calls Tryz.prog 82 #[.slice A n c, .int .i64 k] w fun e w' => e = .returned (.int .u64 ((val a / 2 ^ k % 2 : Nat) : Int)) ∧ w = w' := by
  have H := Lib.hid (rat_any A n c a (k / 32) w hC la (by omega) (by omega))
  have hv := bit_val la k
  rw [← hv]
  obtain ⟨x0, x1⟩ := lim_getD la (k / 32)
  generalize a.getD (k / 32) 0 = x at *
  obtain ⟨q, hq⟩ : ∃ q, k / 32 = q := ⟨_, rfl⟩
  obtain ⟨r, hr⟩ : ∃ r, k % 32 = r := ⟨_, rfl⟩
  have hqi : (k : Int) / 32 = (q : Int) := by omega
  have hri : (k : Int) % 32 = (r : Int) := by omega
  have hr9 : r < 32 := by omega
  have hx9 : x < 18446744073709551616 := by omega
  rw [hq] at H
  rw [hr]
  have hp : (0 : Int) < 2 ^ r := Int.pow_pos (by omega)
  have htm : (x / 2 ^ r).tmod 2 = x / 2 ^ r % 2 := Int.tmod_eq_emod_of_nonneg (Int.ediv_nonneg x0 (Int.le_of_lt hp))
  clear hp
  clear hC hv hq hr
  go_enter Tryz.func82, Tryz.ntmps82
  go_wp2_with fail
  refine (H.out).mono ?_
  rintro e w1 ⟨rfl, rfl⟩
  go_wp2
  go_ret
  exact ⟨rfl, rfl⟩
set_option maxHeartbeats 1000000 in
theorem rzeros_any (A : Option Addr) (n c : Nat) (a : List Int) (w : World) (hC : Kd.C (Kd.int .u32) w A n a) (la : Lim a) (ta : Top a) (hn : n ≤ 1000000) :
    Calls Tryz.prog 52 #[.slice A n c] w fun e w' => e = .returned (.int .i64 (tz (val a) : Nat)) ∧ w = w' := by
  have hl : a.length = n := hC.1
  by_cases h0 : n = 0
  · subst h0
    obtain rfl := List.eq_nil_of_length_eq_zero hl
    rw [show tz (val ([] : List Int)) = 0 from tz_zero]
    clear hC hl
    go_enter Tryz.func52, Tryz.ntmps52
    go_wp2
    go_loopw [3] (fun vi wr => vi = .int .i64 (0 : Int) ∧ Hid (wr = w)) (fun _ _ => 0)
    case atStart => exact ⟨rfl, Lib.hid rfl⟩
    case round =>
      obtain ⟨rfl, hw⟩ := hrel
      go_wp2
      go_ret
      exact ⟨rfl, hw.out.symm⟩
  · have hv : val a ≠ 0 := Nat.ne_of_gt (val_pos la ta (by intro h; rw [h] at hl; simp at hl; omega))
    have HB := Lib.hid fun k => @bit_below (val a) k hv
    have HZ := Lib.hid (bit_tz hv)
    have hlt := val_lt la
    rw [hl, show (4294967296 : Nat) ^ n = 2 ^ (32 * n) from W_two n] at hlt
    have ht9 := tz_le_len hv hlt
    have HBIT := Lib.hid fun k (hk : k ≤ 1000000000000) => rbit_any A n c a k w hC la (by omega) hk
    have hn0 : 0 < n := by omega
    generalize val a = x at *
    generalize hT : tz x = T at *
    have hT9 : T ≤ 32000000 := by omega
    clear hC hl hv hlt h0 ht9
    go_enter Tryz.func52, Tryz.ntmps52
    go_wp2
    go_loopw [3] (fun vi wr => ∃ k : Nat, vi = .int .i64 k ∧ k ≤ T ∧ Hid (wr = w)) (fun vi _ => T - (intOf vi).toNat)
    case atStart => exact ⟨0, rfl, by omega, Lib.hid rfl⟩
    case round =>
      obtain ⟨k, rfl, hk, hw⟩ := hrel
      obtain rfl : w = wr := hw.out.symm
      clear hw
      have H1 := HBIT.out k (by omega)
      by_cases hkT : k < T
      · rw [HB.out k hkT] at H1
        have H2 := Lib.hid H1
        clear H1
        go_wp2_with fail
        refine (H2.out).mono ?_
        rintro e w1 ⟨rfl, rfl⟩
        go_wp2
        go_roundw
        case rel => exact ⟨k + 1, by simp, by omega, Lib.hid (by first | trivial | rfl)⟩
        case measure => simp [intOf]; omega
      · obtain rfl : k = T := by omega
        rw [HZ.out] at H1
        have H2 := Lib.hid H1
        clear H1
        go_wp2_with fail
        refine (H2.out).mono ?_
        rintro e w1 ⟨rfl, rfl⟩
        go_wp2
        go_ret
        exact ⟨rfl, rfl⟩
end Go.Proofs.YtacnkcojhlbkoaaGreatDoor

set_option linter.unusedSimpArgs false
set_option linter.unusedVariables false
set_option linter.unnecessarySimpa false
namespace Go.Proofs.YtacnkcojhlbkoaaGreatDoor.NL
set_option maxRecDepth 100000

/-- A product with one element is being taken off a row, from element o on. -/
def TakeAt (zs d : List Int) (q : Int) (o t k : Nat) (cy bo : Int) (ys : List Int) : Prop :=
  0 ≤ cy ∧ cy < 4294967296 ∧ 0 ≤ bo ∧ bo < 2 ∧ Lim ys ∧ ys.drop t = zs.drop t ∧ cy.toNat * W k ≤ q.toNat * val (d.take k) ∧ val ys + W o * (q.toNat * val (d.take k)) = val zs + W (o + k) * (cy.toNat + bo.toNat)
theorem TakeAt.start {zs d : List Int} {q : Int} {o t : Nat} (lz : Lim zs) : TakeAt zs d q o t 0 0 0 zs := ⟨by omega, by omega, by omega, by omega, lz, rfl, by simp, by simp [val]⟩
theorem drop_set {ys : List Int} {j t : Nat} {x : Int} (h : j < t) : (ys.set j x).drop t = ys.drop t := by
  apply List.ext_getElem?
  intro i
  rw [List.getElem?_drop, List.getElem?_drop, List.getElem?_set_ne (by omega)]
/-- What is left of an element. -/
def takX (r cy q e bo : Int) : Int := subX r ((cy + q * e) % 4294967296) bo
theorem TakeAt.step {zs d ys : List Int} {q cy bo : Int} {o t k : Nat} (ld : Lim d) (q0 : 0 ≤ q) (q1 : q < 4294967296) (h : TakeAt zs d q o t k cy bo ys) (hk : o + k < t) (hy : o + k < ys.length) :
    TakeAt zs d q o t (k + 1) ((cy + q * d.getD k 0) / 4294967296) (takX (ys.getD (o + k) 0) cy q (d.getD k 0) bo / 9223372036854775808) (ys.set (o + k) (takX (ys.getD (o + k) 0) cy q (d.getD k 0) bo % 4294967296)) := by
  obtain ⟨h0, h1, b0, b1, h2, h3, h4, h5⟩ := h
  obtain ⟨y0, y1⟩ := lim_getD ld k
  obtain ⟨u0, u1⟩ := lim_getD h2 (o + k)
  have hb := mul_bound q0 q1 y0 y1 (u := 0) (by omega) (by omega) h0 h1
  have e0 := val_set (x := takX (ys.getD (o + k) 0) cy q (d.getD k 0) bo % 4294967296) hy
  have exy : (q * d.getD k 0).toNat = q.toNat * (d.getD k 0).toNat := Int.toNat_mul q0 y0
  have c0 : 0 ≤ (cy + q * d.getD k 0) / 4294967296 ∧ (cy + q * d.getD k 0) / 4294967296 < 4294967296 ∧ 4294967296 * ((cy + q * d.getD k 0) / 4294967296).toNat + ((cy + q * d.getD k 0) % 4294967296).toNat = cy.toNat + q.toNat * (d.getD k 0).toNat ∧ 0 ≤ (cy + q * d.getD k 0) % 4294967296 ∧ (cy + q * d.getD k 0) % 4294967296 < 4294967296 := by
    rw [← exy]; omega
  unfold takX at *
  generalize (cy + q * d.getD k 0) / 4294967296 = cy' at *
  generalize (cy + q * d.getD k 0) % 4294967296 = lo at *
  have x0 : 0 ≤ subX (ys.getD (o + k) 0) lo bo ∧ subX (ys.getD (o + k) 0) lo bo < 18446744073709551616 := by unfold subX; split <;> omega
  have ex : (subX (ys.getD (o + k) 0) lo bo % 4294967296).toNat + lo.toNat + bo.toNat = (ys.getD (o + k) 0).toNat + 4294967296 * (subX (ys.getD (o + k) 0) lo bo / 9223372036854775808).toNat ∧ 0 ≤ subX (ys.getD (o + k) 0) lo bo / 9223372036854775808 ∧ subX (ys.getD (o + k) 0) lo bo / 9223372036854775808 < 2 ∧ 0 ≤ subX (ys.getD (o + k) 0) lo bo % 4294967296 ∧ subX (ys.getD (o + k) 0) lo bo % 4294967296 < 4294967296 := by unfold subX; split <;> omega
  generalize subX (ys.getD (o + k) 0) lo bo % 4294967296 = nw at *
  generalize subX (ys.getD (o + k) 0) lo bo / 9223372036854775808 = bo' at *
  obtain ⟨ex, n0, n1, n2, n3⟩ := ex
  obtain ⟨c0, c1, c2, -, -⟩ := c0
  refine ⟨c0, c1, n0, n1, lim_set h2 ⟨n2, n3⟩, by rw [drop_set hk]; exact h3, ?_, ?_⟩
  · rw [val_take_succ, W_succ]
    clear ex e0 h5 exy hb x0
    generalize (d.getD k 0).toNat = e at *
    generalize q.toNat = Q at *
    have h6 : cy'.toNat * (4294967296 * W k) ≤ (cy.toNat + Q * e) * W k := by
      rw [← Nat.mul_assoc]
      exact Nat.mul_le_mul_right _ (by omega)
    rw [Nat.add_mul] at h6
    rw [Nat.mul_add, ← Nat.mul_assoc Q (W k) e, Nat.mul_right_comm]
    omega
  · rw [val_take_succ, ← Nat.add_assoc o k 1, W_succ]
    clear h4 hb x0 exy
    generalize (d.getD k 0).toNat = e at *
    generalize (ys.getD (o + k) 0).toNat = r at *
    generalize q.toNat = Q at *
    have hG : W (o + k) * (cy.toNat + bo.toNat + nw.toNat + Q * e) = W (o + k) * (r + 4294967296 * (cy'.toNat + bo'.toNat)) := by
      congr 1; omega
    have h6 : W o * (Q * (W k * e)) = W (o + k) * (Q * e) := by
      rw [W_add]; simp only [Nat.mul_assoc, Nat.mul_left_comm, Nat.mul_comm]
    have h7 : 4294967296 * W (o + k) * (cy'.toNat + bo'.toNat) = W (o + k) * (4294967296 * (cy'.toNat + bo'.toNat)) := by rw [Nat.mul_comm 4294967296, Nat.mul_assoc]
    rw [h7, Nat.mul_add Q, Nat.mul_add (W o), h6]
    rw [Nat.mul_add, Nat.mul_add, Nat.mul_add, Nat.mul_add] at hG
    rw [Nat.mul_add] at h5
    omega
theorem take_len {d : List Int} {m : Nat} (h : d.length ≤ m) : d.take m = d := List.take_of_length_le h
theorem TakeAt.done {zs d ys : List Int} {q cy bo : Int} {o m : Nat} (h : TakeAt zs d q o (o + m) m cy bo ys) (hd : d.length ≤ m) (hq : q.toNat * val d < W m) :
    bo.toNat < 2 ∧ Lim ys ∧ ys.drop (o + m) = zs.drop (o + m) ∧ val ys + W o * (q.toNat * val d) = val zs + W (o + m) * bo.toNat := by
  obtain ⟨h0, h1, b0, b1, h2, h3, h4, h5⟩ := h
  rw [take_len hd] at h4 h5
  have : cy.toNat = 0 := by
    rcases Nat.eq_zero_or_pos cy.toNat with h | h
    · exact h
    · have : 1 * W m ≤ cy.toNat * W m := Nat.mul_le_mul_right _ h
      omega
  rw [this, Nat.zero_add] at h5
  exact ⟨by omega, h2, h3, h5⟩

/-- A number is being added back. -/
def BackAt (zs d : List Int) (o t k : Nat) (cy : Int) (ys : List Int) : Prop :=
  0 ≤ cy ∧ cy < 2 ∧ Lim ys ∧ ys.drop t = zs.drop t ∧ val ys + W (o + k) * cy.toNat = val zs + W o * val (d.take k)
theorem BackAt.start {zs d : List Int} {o t : Nat} (lz : Lim zs) : BackAt zs d o t 0 0 zs := ⟨by omega, by omega, lz, rfl, by simp [val]⟩
theorem BackAt.step {zs d ys : List Int} {cy : Int} {o t k : Nat} (ld : Lim d) (h : BackAt zs d o t k cy ys) (hk : o + k < t) (hy : o + k < ys.length) :
    BackAt zs d o t (k + 1) ((cy + (ys.getD (o + k) 0 + d.getD k 0)) / 4294967296) (ys.set (o + k) ((cy + (ys.getD (o + k) 0 + d.getD k 0)) % 4294967296)) := by
  obtain ⟨h0, h1, h2, h3, h5⟩ := h
  obtain ⟨y0, y1⟩ := lim_getD ld k
  obtain ⟨u0, u1⟩ := lim_getD h2 (o + k)
  have e0 := val_set (x := (cy + (ys.getD (o + k) 0 + d.getD k 0)) % 4294967296) hy
  refine ⟨by omega, by omega, lim_set h2 (by omega), by rw [drop_set hk]; exact h3, ?_⟩
  have ex : ((cy + (ys.getD (o + k) 0 + d.getD k 0)) % 4294967296).toNat + 4294967296 * ((cy + (ys.getD (o + k) 0 + d.getD k 0)) / 4294967296).toNat = cy.toNat + (ys.getD (o + k) 0).toNat + (d.getD k 0).toNat := by omega
  rw [val_take_succ, ← Nat.add_assoc o k 1, W_succ]
  generalize ((cy + (ys.getD (o + k) 0 + d.getD k 0)) % 4294967296) = nw at *
  generalize ((cy + (ys.getD (o + k) 0 + d.getD k 0)) / 4294967296) = cy' at *
  generalize (d.getD k 0).toNat = e at *
  generalize (ys.getD (o + k) 0).toNat = r at *
  have hG : W (o + k) * (nw.toNat + 4294967296 * cy'.toNat) = W (o + k) * (cy.toNat + r + e) := by rw [ex]
  have h6 : W o * (W k * e) = W (o + k) * e := by rw [W_add, Nat.mul_assoc]
  have h7 : 4294967296 * W (o + k) * cy'.toNat = W (o + k) * (4294967296 * cy'.toNat) := by rw [Nat.mul_comm 4294967296, Nat.mul_assoc]
  rw [h7, Nat.mul_add (W o), h6]
  rw [Nat.mul_add, Nat.mul_add, Nat.mul_add] at hG
  omega

/-- A row whose number is small has nothing behind. -/
theorem val_split (zs : List Int) (t : Nat) (h : t ≤ zs.length) : val zs = val (zs.take t) + W t * val (zs.drop t) := by
  have := val_append (zs.take t) (zs.drop t)
  rwa [List.take_append_drop, List.length_take, Nat.min_eq_left h] at this
theorem small_drop {zs : List Int} {t : Nat} (ht : t ≤ zs.length) (h : val zs < W t) : val (zs.drop t) = 0 := by
  have := val_split zs t ht
  rcases Nat.eq_zero_or_pos (val (zs.drop t)) with h0 | h0
  · exact h0
  · have : W t * 1 ≤ W t * val (zs.drop t) := Nat.mul_le_mul_left _ h0
    omega
theorem drop_small {zs ys : List Int} {t : Nat} (ly : Lim ys) (hl : t ≤ ys.length) (h0 : val (zs.drop t) = 0) (h : ys.drop t = zs.drop t) : val ys < W t := by
  have := val_split ys t hl
  rw [h, h0, Nat.mul_zero, Nat.add_zero] at this
  rw [this]
  have h2 := val_lt (l := ys.take t) (fun x hx => ly x (List.mem_of_mem_take hx))
  rwa [List.length_take, Nat.min_eq_left hl] at h2

/-- One element of a quotient is being estimated: q is not below it, r is what it leaves of the two first elements. -/
def EstAt (qt d1 top q r : Nat) : Prop := qt ≤ q ∧ q < 4294967296 ∧ q * d1 + r = top
/-- The numbers at hand: U is the row's, D the divisor's; one element of the quotient. -/
structure EstIn (U D o p qt d1 d2 u3 top : Nat) : Prop where
  hqt : qt = U / (W o * D)
  hU : U < D * W (o + 1)
  hD : W (p + 1) ≤ D
  hD2 : D < W (p + 2)
  h1 : d1 = D / W (p + 1)
  h2 : d2 = D / W p % 4294967296
  ht : top = U / W (o + p + 1)
  h3 : u3 = U / W (o + p) % 4294967296
theorem EstIn.qt_lt {U D o p qt d1 d2 u3 top : Nat} (h : EstIn U D o p qt d1 d2 u3 top) : qt < 4294967296 := by
  rw [h.hqt]
  refine Nat.div_lt_of_lt_mul ?_
  have := h.hU
  rw [W_succ] at this
  rwa [Nat.mul_assoc, Nat.mul_left_comm, Nat.mul_comm (W o) 4294967296]
theorem EstIn.d1_pos {U D o p qt d1 d2 u3 top : Nat} (h : EstIn U D o p qt d1 d2 u3 top) : 1 ≤ d1 ∧ d1 < 4294967296 := by
  rw [h.h1]
  refine ⟨(Nat.le_div_iff_mul_le (W_pos _)).2 (by rw [Nat.one_mul]; exact h.hD), Nat.div_lt_of_lt_mul ?_⟩
  have := h.hD2
  rwa [show p + 2 = (p + 1) + 1 by omega, W_succ, Nat.mul_comm] at this
theorem EstIn.qt_mul {U D o p qt d1 d2 u3 top : Nat} (h : EstIn U D o p qt d1 d2 u3 top) : qt * (W o * D) ≤ U := by
  rw [h.hqt]; exact Nat.div_mul_le_self _ _
theorem EstIn.d1_mul {U D o p qt d1 d2 u3 top : Nat} (h : EstIn U D o p qt d1 d2 u3 top) : d1 * W (p + 1) ≤ D := by
  rw [h.h1]; exact Nat.div_mul_le_self _ _
theorem EstIn.top_mul {U D o p qt d1 d2 u3 top : Nat} (h : EstIn U D o p qt d1 d2 u3 top) : top * W (o + p + 1) ≤ U := by
  rw [h.ht]; exact Nat.div_mul_le_self _ _
theorem EstIn.top_lt {U D o p qt d1 d2 u3 top : Nat} (h : EstIn U D o p qt d1 d2 u3 top) : top < 18446744073709551616 := by
  rw [h.ht]
  refine Nat.div_lt_of_lt_mul (Nat.lt_of_lt_of_le h.hU ?_)
  rw [show (18446744073709551616 : Nat) = W 2 from rfl, ← W_add]
  have : D * W (o + 1) ≤ W (p + 2) * W (o + 1) := Nat.mul_le_mul_right _ (Nat.le_of_lt h.hD2)
  rw [← W_add] at this
  exact Nat.le_trans this (W_le (by omega))
theorem EstIn.start {U D o p qt d1 d2 u3 top : Nat} (h : EstIn U D o p qt d1 d2 u3 top) : EstAt qt d1 top (min (top / d1) 4294967295) (top - min (top / d1) 4294967295 * d1) := by
  have hq : qt ≤ top / d1 := by
    rw [Nat.le_div_iff_mul_le h.d1_pos.1]
    rw [h.ht, Nat.le_div_iff_mul_le (W_pos _)]
    refine Nat.le_trans ?_ h.qt_mul
    rw [Nat.mul_assoc]
    refine Nat.mul_le_mul_left _ ?_
    rw [Nat.add_assoc, W_add, Nat.mul_left_comm]
    exact Nat.mul_le_mul_left _ h.d1_mul
  have h2 := h.qt_lt
  have h3 : min (top / d1) 4294967295 * d1 ≤ top := Nat.le_trans (Nat.mul_le_mul_right _ (Nat.min_le_left _ _)) (Nat.div_mul_le_self _ _)
  refine ⟨by omega, by omega, by omega⟩
/-- The three first elements. -/
theorem EstIn.three {U D o p qt d1 d2 u3 top : Nat} (h : EstIn U D o p qt d1 d2 u3 top) : U / W (o + p) = top * 4294967296 + u3 := by
  rw [h.ht, h.h3, W_succ, Nat.mul_comm 4294967296, ← Nat.div_div_eq_div_mul, Nat.mul_comm (U / W (o + p) / 4294967296)]
  exact (Nat.div_add_mod _ _).symm
theorem EstIn.two {U D o p qt d1 d2 u3 top : Nat} (h : EstIn U D o p qt d1 d2 u3 top) : D / W p = d1 * 4294967296 + d2 := by
  rw [h.h1, h.h2, W_succ, Nat.mul_comm 4294967296, ← Nat.div_div_eq_div_mul, Nat.mul_comm (D / W p / 4294967296)]
  exact (Nat.div_add_mod _ _).symm
theorem EstAt.step {U D o p qt d1 d2 u3 top q r : Nat} (h : EstIn U D o p qt d1 d2 u3 top) (e : EstAt qt d1 top q r) (hc : r * 4294967296 + u3 < q * d2) : 1 ≤ q ∧ EstAt qt d1 top (q - 1) (r + d1) := by
  obtain ⟨e1, e2, e3⟩ := e
  have hq : 1 ≤ q := by
    rcases Nat.eq_zero_or_pos q with h0 | h0
    · rw [h0, Nat.zero_mul] at hc; omega
    · exact h0
  have hlt : qt < q := by
    refine Nat.lt_of_not_le fun hle => ?_
    have h4 : q * (d1 * 4294967296 + d2) ≤ top * 4294967296 + u3 := by
      rw [← h.three, ← h.two, Nat.le_div_iff_mul_le (W_pos _), Nat.mul_assoc]
      refine Nat.le_trans (Nat.mul_le_mul hle ?_) h.qt_mul
      rw [W_add, Nat.mul_left_comm]
      exact Nat.mul_le_mul_left _ (Nat.div_mul_le_self _ _)
    rw [Nat.mul_add, ← e3, Nat.add_mul, ← Nat.mul_assoc] at h4
    omega
  refine ⟨hq, by omega, by omega, ?_⟩
  obtain ⟨j, rfl⟩ : ∃ j, q = j + 1 := ⟨q - 1, by omega⟩
  rw [Nat.succ_mul] at e3
  rw [Nat.add_sub_cancel]; omega
theorem EstAt.stop {U D o p qt d1 d2 u3 top q r : Nat} (h : EstIn U D o p qt d1 d2 u3 top) (e : EstAt qt d1 top q r) (hc : 4294967296 ≤ r ∨ q * d2 ≤ r * 4294967296 + u3) : q = qt ∨ q = qt + 1 := by
  obtain ⟨e1, e2, e3⟩ := e
  have hD1 : D < (d1 + 1) * W (p + 1) := by
    rw [h.h1]; exact Nat.lt_mul_of_div_lt (Nat.lt_succ_self _) (W_pos _)
  have hD2 : D < (d1 * 4294967296 + d2 + 1) * W p := by
    rw [← h.two]; exact Nat.lt_mul_of_div_lt (Nat.lt_succ_self _) (W_pos _)
  have hX : q * (W o * D) ≤ U + W o * D := by
    rcases hc with hc | hc
    · refine Nat.le_trans ?_ (Nat.le_add_right _ _)
      refine Nat.le_trans ?_ h.top_mul
      have h5 : q * (W o * D) ≤ q * (W o * ((d1 + 1) * W (p + 1))) := Nat.mul_le_mul_left _ (Nat.mul_le_mul_left _ (Nat.le_of_lt hD1))
      refine Nat.le_trans h5 ?_
      rw [Nat.mul_left_comm (W o), ← W_add, ← Nat.mul_assoc, ← Nat.add_assoc]
      refine Nat.mul_le_mul_right _ ?_
      rw [Nat.mul_add, Nat.mul_one]; omega
    · have h5 : q * (W o * D) ≤ q * (W o * ((d1 * 4294967296 + d2 + 1) * W p)) := Nat.mul_le_mul_left _ (Nat.mul_le_mul_left _ (Nat.le_of_lt hD2))
      refine Nat.le_trans h5 ?_
      have h6 : q * (d1 * 4294967296 + d2) * W (o + p) ≤ U := by
        rw [← Nat.le_div_iff_mul_le (W_pos _), h.three, Nat.mul_add, ← e3, Nat.add_mul, ← Nat.mul_assoc]; omega
      have h7 : q * W (o + p) ≤ W o * D := by
        refine Nat.le_trans (Nat.mul_le_mul_right _ (Nat.le_of_lt e2)) ?_
        rw [← W_succ, Nat.add_assoc, W_add]
        exact Nat.mul_le_mul_left _ h.hD
      have h8 : q * (W o * ((d1 * 4294967296 + d2 + 1) * W p)) = q * (d1 * 4294967296 + d2) * W (o + p) + q * W (o + p) := by
        rw [Nat.mul_left_comm (W o), ← W_add, ← Nat.mul_assoc, Nat.mul_add q (d1 * 4294967296 + d2), Nat.mul_one, Nat.add_mul]
      omega
  have hq : q ≤ qt + 1 := by
    rcases Nat.eq_zero_or_pos q with h0 | h0
    · omega
    · obtain ⟨j, rfl⟩ : ∃ j, q = j + 1 := ⟨q - 1, by omega⟩
      have : j ≤ qt := by
        rw [h.hqt, Nat.le_div_iff_mul_le (Nat.mul_pos (W_pos _) (Nat.lt_of_lt_of_le (W_pos _) h.hD))]
        rw [Nat.succ_mul] at hX; omega
      omega
  omega
theorem EstIn.U_lt {U D o p qt d1 d2 u3 top : Nat} (h : EstIn U D o p qt d1 d2 u3 top) : U < W (o + (p + 3)) := by
  refine Nat.lt_of_lt_of_le h.hU ?_
  have : D * W (o + 1) ≤ W (p + 2) * W (o + 1) := Nat.mul_le_mul_right _ (Nat.le_of_lt h.hD2)
  rw [← W_add] at this
  exact Nat.le_trans this (W_le (by omega))
theorem EstIn.X_pos {U D o p qt d1 d2 u3 top : Nat} (h : EstIn U D o p qt d1 d2 u3 top) : 0 < W o * D := Nat.mul_pos (W_pos _) (Nat.lt_of_lt_of_le (W_pos _) h.hD)
theorem EstIn.fin0 {U D o p qt d1 d2 u3 top q V : Nat} (h : EstIn U D o p qt d1 d2 u3 top) (hq : q = qt ∨ q = qt + 1) (hv : V + W o * (q * D) = U) : q = qt ∧ V = U % (W o * D) := by
  have e : W o * (q * D) = q * (W o * D) := Nat.mul_left_comm ..
  rw [e] at hv
  have h1 : q ≤ qt := by
    rw [h.hqt, Nat.le_div_iff_mul_le h.X_pos]; omega
  have h2 : q = qt := by omega
  refine ⟨h2, ?_⟩
  have h3 := Nat.div_add_mod U (W o * D)
  rw [← h.hqt, Nat.mul_comm, ← h2] at h3
  omega
theorem EstIn.fin1 {U D o p qt d1 d2 u3 top q V Y c : Nat} (h : EstIn U D o p qt d1 d2 u3 top) (hq : q = qt ∨ q = qt + 1) (hv : V + W o * (q * D) = U + W (o + (p + 3))) (hV : V < W (o + (p + 3))) (hc : c < 2) (hY : Y < W (o + (p + 3))) (hb : Y + W (o + (p + 3)) * c = V + W o * D) :
    q = qt + 1 ∧ Y = U % (W o * D) := by
  have e : W o * (q * D) = q * (W o * D) := Nat.mul_left_comm ..
  rw [e] at hv
  have h2 : q = qt + 1 := by
    rcases hq with h1 | h1
    · have := h.qt_mul
      rw [← h1] at this
      omega
    · exact h1
  refine ⟨h2, ?_⟩
  have h3 := Nat.div_add_mod U (W o * D)
  rw [← h.hqt, Nat.mul_comm] at h3
  rw [h2, Nat.succ_mul] at hv
  generalize qt * (W o * D) = Z at *
  generalize W (o + (p + 3)) = t at *
  have h4 : c = 0 ∨ c = 1 := by omega
  rcases h4 with rfl | rfl
  · omega
  · omega
/-- The numbers at hand, out of the rows. -/
theorem EstIn.of {zs d : List Int} {o p : Nat} (lz : Lim zs) (ld : Lim d) (hl : d.length = p + 2) (hD : W (p + 1) ≤ val d) (hU : val zs < val d * W (o + 1)) :
    EstIn (val zs) (val d) o p (val zs / (W o * val d)) (d.getD (p + 1) 0).toNat (d.getD p 0).toNat (zs.getD (o + p) 0).toNat ((zs.getD (o + p + 2) 0).toNat * 4294967296 + (zs.getD (o + p + 1) 0).toNat) := by
  have hD2 : val d < W (p + 2) := by have := val_lt ld; rwa [hl] at this
  have hU2 : val zs < W (o + p + 3) := by
    refine Nat.lt_of_lt_of_le hU ?_
    have : val d * W (o + 1) ≤ W (p + 2) * W (o + 1) := Nat.mul_le_mul_right _ (Nat.le_of_lt hD2)
    rw [← W_add] at this
    exact Nat.le_trans this (W_le (by omega))
  refine ⟨rfl, hU, hD, hD2, ?_, digit ld _, ?_, digit lz _⟩
  · rw [digit ld, Nat.mod_eq_of_lt]
    refine Nat.div_lt_of_lt_mul ?_
    rw [show p + 2 = (p + 1) + 1 by omega, W_succ] at hD2
    rwa [Nat.mul_comm]
  · rw [digit lz, digit lz]
    have h1 : val zs / W (o + p + 2) = val zs / W (o + p + 1) / 4294967296 := by
      rw [Nat.div_div_eq_div_mul, show o + p + 2 = (o + p + 1) + 1 by omega, W_succ, Nat.mul_comm 4294967296]
    have h2 : val zs / W (o + p + 2) < 4294967296 := by
      refine Nat.div_lt_of_lt_mul ?_
      rw [show o + p + 3 = (o + p + 2) + 1 by omega, W_succ] at hU2
      rwa [Nat.mul_comm]
    rw [Nat.mod_eq_of_lt h2, h1, Nat.mul_comm]
    exact Nat.div_add_mod _ _
end Go.Proofs.YtacnkcojhlbkoaaGreatDoor.NL

set_option linter.unusedSimpArgs false
set_option linter.unusedVariables false
set_option linter.unnecessarySimpa false
namespace Go.Proofs.YtacnkcojhlbkoaaGreatDoor
open Go.RowKit Go.Proofs.YtacnkcojhlbkoaaGreatDoorW.PrintWords Go.Proofs.YtacnkcojhlbkoaaGreatDoorW.PrintLast Go.Proofs.YtacnkcojhlbkoaaGreatDoorW.PrintMore Go.Proofs.YtacnkcojhlbkoaaGreatDoor.NL
set_option maxRecDepth 100000

theorem Chg.id (w : World) (S : Nat → Prop) : Chg w w S := Chg.of_below (Below.refl _ _)
theorem Chg.tr {w w' w'' : World} {S : Nat → Prop} (h : Chg w w' S) (k : Chg w' w'' S) : Chg w w'' S :=
  ⟨k.os.trans h.os, k.tape.trans h.tape, k.output.trans h.output, Nat.le_trans h.size k.size, fun i hi hS => (k.block i (Nat.lt_of_lt_of_le hi h.size) hS).trans (h.block i hi hS)⟩
def TakRel (zs d : List Int) (q : Int) (o m L c g : Nat) (w0 w : World) (vc vb vi : Value) (wr : World) : Prop :=
  ∃ (k : Nat) (cy bo : Int) (ys : List Int), k ≤ m ∧ vi = .int .i64 k ∧ vc = .int .u64 cy ∧ vb = .int .u64 bo ∧ ys.length = L ∧ OwnI .u32 40 w0.heap.size wr (.slice (some ⟨g, 0, none⟩) L c) ys ∧ Below w0.heap.size w0 wr ∧ Chg w wr (fun k => k = g) ∧ TakeAt zs d q o (o + m) k cy bo ys
def TakP (zs d : List Int) (q : Int) (o m L c g : Nat) (w0 w : World) (e : Ending) (w' : World) : Prop :=
  ∃ (bo : Int) (ys : List Int), e = .returned (.bool (decide (bo > 0))) ∧ 0 ≤ bo ∧ bo.toNat < 2 ∧ OwnI .u32 40 w0.heap.size w' (.slice (some ⟨g, 0, none⟩) L c) ys ∧ ys.length = L ∧ Lim ys ∧ ys.drop (o + m) = zs.drop (o + m) ∧ val ys + W o * (q.toNat * val d) = val zs + W (o + m) * bo.toNat ∧ Below w0.heap.size w0 w' ∧ Chg w w' (fun k => k = g)
set_option maxHeartbeats 4000000 in
theorem takes_any {w0 : World} (g o m c' L c : Nat) (zs : List Int) (D : Option Addr) (nd cd : Nat) (d : List Int) (q : Int) (w : World)
    (hO : OwnI .u32 40 w0.heap.size w (.slice (some ⟨g, 0, none⟩) L c) zs) (hz : zs.length = L) (lz : Lim zs) (hm : o + m ≤ L) (hL : L ≤ 1000000000) (hD : Kd.C (Kd.int .u32) w0 D nd d) (ld : Lim d) (hb0 : Below w0.heap.size w0 w) (hnd : nd ≤ m) (q0 : 0 ≤ q) (q1 : q < 4294967296) (hq : q.toNat * val d < W m) :
    Calls Tryz.prog 132 #[.slice (some ⟨g, o, none⟩) m c', .slice D nd cd, .int .u64 q] w (TakP zs d q o m L c g w0 w) := by
  have hd : d.length = nd := hD.1
  have HD := Lib.hid hD
  have HDL := Lib.hid hd
  have HO := Lib.hid hO
  have HQ := Lib.hid hq
  have HZ := Lib.hid hz
  clear hD hd hO hq hz
  go_enter Tryz.func132, Tryz.ntmps132
  go_wp2
  go_loopw [7, 8, 13] (fun vc vb vi wr => TakRel zs d q o m L c g w0 w vc vb vi wr) (fun _ _ vi _ => m - (intOf vi).toNat)
  case atStart => exact ⟨0, 0, 0, zs, by omega, rfl, rfl, rfl, HZ.out, HO.out, hb0, Chg.id _ _, TakeAt.start lz⟩
  case round =>
    obtain ⟨k, cy, bo, ys, hk, rfl, rfl, rfl, hy, hown, hbw, hch, htk⟩ := hrel
    have HY := Lib.hid hy
    have HW := Lib.hid hown
    have HT := Lib.hid htk
    obtain ⟨c0, c1, b0, b1, ly, -, -, -⟩ := htk
    clear hy hown
    by_cases hlt : k < m
    · obtain ⟨g', hg', hg0, hg1, hgc, hgf⟩ := own_open HW.out (by omega)
      obtain rfl : g = g' := by injection hg' with h1; injection h1
      clear hg'
      have hcell := hgc (o + k) (by omega)
      have hfr := hgf (o + k)
      obtain ⟨r0, r1⟩ := lim_getD ly (o + k)
      obtain ⟨y0, y1⟩ := lim_getD ld k
      have hst := TakeAt.step ld q0 q1 HT.out (by omega) (by rw [HY.out]; omega)
      unfold takX at hst
      have HST := Lib.hid hst
      have ata : ∀ w', Below wr.heap.size wr w' → Calls Tryz.prog 96 #[.slice D nd cd, .int .i64 k] w' fun e w'' => e = .returned (.int .u64 (d.getD k 0)) ∧ w' = w'' := fun w' hb' =>
        at_any D nd cd d k w' (Kd.C_below HD.out (below_step hbw hb')) ld (by omega) (by omega)
      have HAT := Lib.hid ata
      clear hgc hgf hst ata ly
      generalize d.getD k 0 = y at *
      generalize ys.getD (o + k) 0 = r at *
      obtain ⟨m0, m1, m2, m3⟩ := mul_bound q0 q1 y0 y1 (u := 0) (by omega) (by omega) c0 c1
      rw [Int.add_zero] at m2 m3
      have l0 : 0 ≤ (cy + q * y) % 4294967296 := by omega
      have l1 : (cy + q * y) % 4294967296 < 4294967296 := by omega
      go_wp2_with (first | (go_at_call 96; (with_reducible refine (HAT.out _ bel).mono ?_); rintro e w3 ⟨rfl, rfl⟩))
      rw [wrap_sub r0 r1 l0 l1 b0 b1]
      go_roundw
      case rel => exact ⟨k + 1, _, _, _, by omega, by simp, rfl, rfl, by simp [HY.out], Kd.R_putn HW.out ((o + k : Nat) : Int) _, bel, Chg.setCell hch rfl _, HST.out⟩
      case measure => simp [intOf]; omega
    · obtain rfl : k = m := by omega
      obtain ⟨p1, p2, p3, p4⟩ := TakeAt.done HT.out (by rw [HDL.out]; exact hnd) HQ.out
      have H2 := Lib.hid p2
      have H3 := Lib.hid p3
      have H4 := Lib.hid p4
      clear p2 p3 p4 ly
      go_wp2
      go_ret
      exact ⟨bo, ys, rfl, b0, p1, HW.out, HY.out, H2.out, H3.out, H4.out, hbw, hch⟩
end Go.Proofs.YtacnkcojhlbkoaaGreatDoor
