/- The specification's Format, Power and sums, of numbers. The specification's Make of the coefficient 1, in the form of an extern. The specification's Mul: a product. The specification's ValidInt: its walk. The specification's Valid, Has, Encode of data: what they return, of numbers. The specification's number. The specification's Mul, number and ValidInt, in the form of externs. The specification's place: its walk in two cases. The specification's place, in two cases; its Format, Power, Greatest, IsFormat and Zeros in the form of externs. -/
import Derived.Test.YtacnkcojhlbkoaaGreatDoorJFor27
import Derived.Test.YtacnkcojhlbkoaaGreatDoorJFor28
import Derived.Test.YtacnkcojhlbkoaaGreatDoorJFor29
import Derived.Test.YtacnkcojhlbkoaaGreatDoorJFor24
import Derived.Test.YtacnkcojhlbkoaaGreatDoorJFor9
import Derived.Test.YtacnkcojhlbkoaaGreatDoorJFor10
import Derived.Test.YtacnkcojhlbkoaaGreatDoorJFor23
import Derived.Test.YtacnkcojhlbkoaaGreatDoorJFor19
set_option linter.unusedSimpArgs false
set_option linter.unusedVariables false
set_option linter.unnecessarySimpa false
namespace Go.Proofs.YtacnkcojhlbkoaaGreatDoor
open Go.RowKit Go.Proofs.YtacnkcojhlbkoaaGreatDoorW.PrintWords Go.Proofs.YtacnkcojhlbkoaaGreatDoorW.PrintLast Go.Proofs.YtacnkcojhlbkoaaGreatDoorW.PrintMore Go.Proofs.YtacnkcojhlbkoaaGreatDoor.NL
set_option maxRecDepth 100000
set_option exponentiation.threshold 33000

theorem rformat {f : Int} (hf : isFm f = true) (w : World) : Calls Tryz.prog 17 #[.int .i64 f] w fun e w'' => e = .returned (.agg #[.int .i64 (fmD f), .int .i64 (fmE f), .int .i64 (fmL f), .int .i64 (fmH f), .int .i64 (fmW f)]) ∧ Below w.heap.size w w'' := by
  refine XAr.sorobanref05_Format.calls f (fmD f) (fmE f) (fmL f) (fmH f) (fmW f) w ?_
  rcases fm_cases hf with rfl | rfl | rfl | rfl | rfl <;> rfl
end Go.Proofs.YtacnkcojhlbkoaaGreatDoor

set_option linter.unusedSimpArgs false
set_option linter.unusedVariables false
set_option linter.unnecessarySimpa false
namespace Go.Proofs.YtacnkcojhlbkoaaGreatDoor
open Go.RowKit Go.Proofs.YtacnkcojhlbkoaaGreatDoorW.PrintWords Go.Proofs.YtacnkcojhlbkoaaGreatDoorW.PrintLast Go.Proofs.YtacnkcojhlbkoaaGreatDoorW.PrintMore Go.Proofs.YtacnkcojhlbkoaaGreatDoor.NL
set_option maxRecDepth 100000
set_option exponentiation.threshold 130

theorem lim_one : Lim [1] := by intro x hx; simp at hx; omega
theorem rmk_nums {f ex : Int} (hf : isFm f = true) (h1 : fmL f ≤ ex) (h2 : ex ≤ fmH f) : wrap64 (ex + ((0 : Nat) : Int)) = ex ∧ wrap64 (wrap64 (ex + 1) - fmD f) = ex + 1 - fmD f ∧ max (fmL f) (ex + 1 - fmD f) ≤ ex ∧ max (fmL f) (ex + 1 - fmD f) ≤ fmH f ∧ ex - max (fmL f) (ex + 1 - fmD f) ≤ 200 ∧ -20000 ≤ ex ∧ ex ≤ 20000 ∧ 1 ≤ fmD f := by
  have := fmL_bd f
  have := fmH_bd f
  obtain ⟨n1, -, -, -, -, n6, -⟩ := fm_nums hf
  unfold wrap64
  omega
theorem rmake_one {f ex : Int} {ng : Bool} {A : Option Addr} {c : Nat} (w : World) (hf : isFm f = true) (hA : Kd.C (Kd.int .u32) w A 1 [1]) (hc : 1 ≤ c) (h1 : fmL f ≤ ex) (h2 : ex ≤ fmH f) :
    Calls Tryz.prog 19 #[.int .i64 f, .bool ng, .slice A 1 c, .int .i64 ex] w fun e w' => ∃ v, e = .returned (.agg #[.int .i64 f, .int .i64 1, .bool ng, v, .int .i64 (max (fmL f) (ex + 1 - fmD f)), .bool true]) ∧ Kd.R (Kd.int .u32) 40 w' w.heap.size (fun _ => True) v (ofN (2 ^ (ex - max (fmL f) (ex + 1 - fmD f)).toNat)) ∧ Below w.heap.size w w' := by
  obtain ⟨k1, k2, k3, k4, k5, k6, k7, k8⟩ := rmk_nums hf h1 h2
  have v1 : val [1] = 1 := by decide
  have u1 : u32L [1] = true := by decide
  have t1 : tz 1 = 0 := by decide +kernel
  have b1 : blen 1 = 1 := by decide +kernel
  have o1 : okN [1] = true := by decide
  have e1 : ofN 1 = [1] := by decide +kernel
  have top1 : Top [1] := by unfold Top; decide
  refine rmake_ok (z := 0) (o := [1]) (b := 1) (lo := ex) (q := max (fmL f) (ex + 1 - fmD f)) (X := ex + 1 - fmD f) w (by decide) (Lib.hid fun w' => rformat hf w')
    (Lib.hid fun w' h => ?_) (Lib.hid fun w' h => ?_) (Lib.hid fun A' c' w' g1 g2 => ?_) (Lib.hid fun A' c' w' g1 g2 => ?_) (decide_eq_false (by omega)) (decide_eq_false (by omega)) k1 (decide_eq_false (by omega)) (decide_eq_false (by omega)) k2 rfl (decide_eq_false (by omega)) (w64 (by omega) (by omega))
  · have := rzeros_any A 1 c [1] w' (Kd.C_below hA h) lim_one top1 (by omega)
    rw [v1, t1] at this
    exact this
  · exact sorobanref01_Shr.calls A c [1] 0 [1] w' (Kd.C_below hA h) hc (by unfold sorobanref01_Shr.f; rw [u1, decide_eq_true ⟨by simp, by omega, by omega⟩, v1]; rw [if_pos (by rfl)]; show some (ofN (1 / 2 ^ 0)) = _; rw [Nat.pow_zero, Nat.div_one, e1])
  · exact sorobanref01_Bits.calls A' c' [1] 1 w' g1 g2 (by unfold sorobanref01_Bits.f; rw [u1, o1, v1, b1]; rfl)
  · exact sorobanref01_Shl.calls A' c' [1] (ex - max (fmL f) (ex + 1 - fmD f)) _ w' g1 g2 (by unfold sorobanref01_Shl.f; rw [u1, decide_eq_true ⟨by simp, by simp, by omega, by omega⟩, v1, Nat.one_mul]; rfl)
end Go.Proofs.YtacnkcojhlbkoaaGreatDoor

set_option linter.unusedSimpArgs false
set_option linter.unusedVariables false
set_option linter.unnecessarySimpa false
namespace Go.Proofs.YtacnkcojhlbkoaaGreatDoor
open Go.RowKit Go.Proofs.YtacnkcojhlbkoaaGreatDoorW.PrintWords Go.Proofs.YtacnkcojhlbkoaaGreatDoorW.PrintLast Go.Proofs.YtacnkcojhlbkoaaGreatDoorW.PrintMore Go.Proofs.YtacnkcojhlbkoaaGreatDoor.NL
set_option maxRecDepth 100000

end Go.Proofs.YtacnkcojhlbkoaaGreatDoor

set_option linter.unusedSimpArgs false
set_option linter.unusedVariables false
set_option linter.unnecessarySimpa false
namespace Go.Proofs.YtacnkcojhlbkoaaGreatDoor
open Go.RowKit Go.Proofs.YtacnkcojhlbkoaaGreatDoorW.PrintWords Go.Proofs.YtacnkcojhlbkoaaGreatDoorW.PrintLast Go.Proofs.YtacnkcojhlbkoaaGreatDoorW.PrintMore Go.Proofs.YtacnkcojhlbkoaaGreatDoor.NL
set_option maxRecDepth 100000

end Go.Proofs.YtacnkcojhlbkoaaGreatDoor

set_option linter.unusedSimpArgs false
set_option linter.unusedVariables false
set_option linter.unnecessarySimpa false
namespace Go.Proofs.YtacnkcojhlbkoaaGreatDoor
open Go.RowKit Go.Proofs.YtacnkcojhlbkoaaGreatDoorW.PrintWords Go.Proofs.YtacnkcojhlbkoaaGreatDoorW.PrintLast Go.Proofs.YtacnkcojhlbkoaaGreatDoorW.PrintMore Go.Proofs.YtacnkcojhlbkoaaGreatDoor.NL
set_option maxRecDepth 100000
set_option exponentiation.threshold 33000

set_option maxHeartbeats 1000000 in
theorem rvalid_any (A : Option Addr) (n c : Nat) (a : List Int) (w : World) (hA : Kd.C (Kd.int .u32) w A n a) (la : Lim a) :
    Calls Tryz.prog 37 #[.slice A n c] w fun e w' => e = .returned (.bool (okN a)) ∧ w = w' := by
  have hl : a.length = n := hA.1
  by_cases h1 : n ≤ 1024
  · rcases Nat.eq_zero_or_pos n with h0 | h0
    · subst h0
      have : a = [] := List.eq_nil_of_length_eq_zero hl
      subst this
      rw [okN_nil]
      clear hA hl
      go_enter Tryz.func37, Tryz.ntmps37
      go_wp2
      go_ret
      exact ⟨rfl, rfl⟩
    · obtain ⟨j, rfl⟩ : ∃ j, n = j + 1 := ⟨n - 1, by omega⟩
      obtain ⟨b, off, rfl, hlt, hcs⟩ := open_C hA (by omega)
      have hcell := hcs j (by omega)
      have hv : okN a = decide (a.getD j 0 ≠ 0) := by
        unfold okN
        rw [hl]
        simp only [top_snoc hl, h1, true_and]
      obtain ⟨x0, x1⟩ := lim_getD la j
      clear hcs hA
      have HL := Lib.hid hl
      generalize a.getD j 0 = x at *
      have t0 : (((j : Int) + 1) == 0) = false := by simp; omega
      have hj1 : ((j : Int) + 1 - 1) = (j : Int) := by omega
      rw [hv]
      clear hv hl
      by_cases hx : x = 0
      · subst hx
        go_enter Tryz.func37, Tryz.ntmps37
        go_wp2
        go_ret
        exact ⟨rfl, rfl⟩
      · have t1 : (x == 0) = false := by simpa using hx
        have t2 : (x != 0) = true := by simpa using hx
        have hdx : decide (x ≠ 0) = true := decide_eq_true hx
        rw [hdx]
        clear hx hdx
        go_enter Tryz.func37, Tryz.ntmps37
        go_wp2
        go_ret
        exact ⟨rfl, rfl⟩
  · have hv : okN a = false := by unfold okN; rw [hl]; simp [h1]
    rw [hv]
    have d0 : decide (n ≤ 1024) = false := decide_eq_false h1
    clear hA hv hl
    go_enter Tryz.func37, Tryz.ntmps37
    go_wp2
    go_ret
    exact ⟨rfl, rfl⟩

theorem risf_any (f : Int) (w : World) : Calls Tryz.prog 16 #[.int .i64 f] w fun e w' => e = .returned (.bool (isFm f)) ∧ Below w.heap.size w w' := by
  by_cases h1 : 1 ≤ f
  · have d1 : decide (f ≥ 1) = true := decide_eq_true h1
    by_cases h2 : f ≤ 5
    · have hv : isFm f = true := decide_eq_true ⟨h1, h2⟩
      go_enter Tryz.func16, Tryz.ntmps16
      go_wp2
      all_goals
        go_ret
        exact ⟨by simp [hv]; try omega, bel⟩
    · have hv : isFm f = false := decide_eq_false (fun h => h2 h.2)
      go_enter Tryz.func16, Tryz.ntmps16
      go_wp2
      all_goals
        go_ret
        exact ⟨by simp [hv]; try omega, bel⟩
  · have hv : isFm f = false := decide_eq_false (fun h => h1 h.1)
    have d1 : decide (f ≥ 1) = false := decide_eq_false h1
    go_enter Tryz.func16, Tryz.ntmps16
    go_wp2
    all_goals
      go_ret
      exact ⟨by simp [hv]; try omega, bel⟩
theorem rbits_len {A : Option Addr} {n c : Nat} {a : List Int} (w : World) (hA : Kd.C (Kd.int .u32) w A n a) (la : Lim a) (hc : n ≤ c) (hok : okN a = true) :
    Calls Tryz.prog 33 #[.slice A n c] w fun e w' => e = .returned (.int .i64 (blen (val a))) ∧ Below w.heap.size w w' := by
  obtain rfl : a.length = n := hA.1
  refine sorobanref01_Bits.calls A c a _ w hA hc ?_
  unfold sorobanref01_Bits.f
  rw [u32L_mk la, hok]; rfl
theorem rbelow_any {A : Option Addr} {n c : Nat} {a : List Int} (d : Int) (w : World) (hA : Kd.C (Kd.int .u32) w A n a) (la : Lim a) (hc : n ≤ c) (hok : okN a = true) :
    Calls Tryz.prog 38 #[.slice A n c, .int .i64 d] w fun e w' => e = .returned (.bool (decide ((blen (val a) : Int) ≤ d))) ∧ Below w.heap.size w w' := by
  have HB := Lib.hid fun w' (h : Below w.heap.size w w') => rbits_len w' (Kd.C_below hA h) la hc hok
  clear hA hc la hok
  generalize blen (val a) = z at *
  go_enter Tryz.func38, Tryz.ntmps38
  go_wp2_with (first | (go_at_call 33; (with_reducible refine (HB.out _ bel).mono ?_); rintro e w1 ⟨rfl, b1⟩; obtain ⟨hc1, hf1⟩ := bcell b1; (try simp only [dr_size, dr_cell] at hc1); (try simp only [dr_size, dr_frozen] at hf1); have hz1 := below_size b1; (try simp at hz1); (try have z01 : w.heap.size < w1.heap.size := (by omega))))
  all_goals
    go_ret
    exact ⟨rfl, bel⟩
set_option maxHeartbeats 8000000 in
theorem rval_core (D E L H W f cl : Int) (ng : Bool) (A : Option Addr) (n c : Nat) (z : Nat) (ex : Int) (w : World) (hD : 2 ≤ D ∧ D ≤ 1000) (hnz : n = 0 ↔ z = 0)
    (hi : ∀ w', Calls Tryz.prog 16 #[.int .i64 f] w' fun e w'' => e = .returned (.bool true) ∧ Below w'.heap.size w' w'')
    (hv : ∀ w', Below w.heap.size w w' → Calls Tryz.prog 37 #[.slice A n c] w' fun e w'' => e = .returned (.bool true) ∧ w' = w'')
    (hfo : ∀ w', Calls Tryz.prog 17 #[.int .i64 f] w' fun e w'' => e = .returned (.agg #[.int .i64 D, .int .i64 E, .int .i64 L, .int .i64 H, .int .i64 W]) ∧ Below w'.heap.size w' w'')
    (hbl : ∀ d w', Below w.heap.size w w' → Calls Tryz.prog 38 #[.slice A n c, .int .i64 d] w' fun e w'' => e = .returned (.bool (decide ((z : Int) ≤ d))) ∧ Below w'.heap.size w' w'') :
    Calls Tryz.prog 7 #[dV f cl ng A n c ex] w fun e w' => e = .returned (.bool (fits D L H cl z ex)) ∧ Below w.heap.size w w' := by
  have HIF := Lib.hid hi
  have HV := Lib.hid hv
  have HFO := Lib.hid hfo
  have HBL := Lib.hid hbl
  obtain ⟨hd1, hd2⟩ := hD
  clear hv hi hfo hbl
  by_cases c1 : cl = 1
  · subst c1
    go_enter Tryz.func7, Tryz.ntmps7
    go_wp2_with (first | (go_at_call 16; (with_reducible refine (HIF.out _).mono ?_); rintro e w1 ⟨rfl, b1⟩; obtain ⟨hc1, hf1⟩ := bcell b1; (try simp only [dr_size, dr_cell] at hc1); (try simp only [dr_size, dr_frozen] at hf1); have hz1 := below_size b1; (try simp at hz1); (try have z01 : w.heap.size < w1.heap.size := (by omega)); (try have z11 : w.heap.size + 1 < w1.heap.size := (by omega))) | (go_at_call 37; (with_reducible refine (HV.out _ bel).mono ?_); rintro e w9 ⟨rfl, rfl⟩) | (go_at_call 17; (with_reducible refine (HFO.out _).mono ?_); rintro e w2 ⟨rfl, b2⟩; obtain ⟨hc2, hf2⟩ := bcell b2; (try simp only [dr_size, dr_cell] at hc2); (try simp only [dr_size, dr_frozen] at hf2); have hz2 := below_size b2; (try simp at hz2); (try have z02 : w.heap.size < w2.heap.size := (by omega)); (try have z12 : w.heap.size + 1 < w2.heap.size := (by omega)); (try have yw12 : w1.heap.size < w2.heap.size := (by omega))) | (go_at_call 38; (with_reducible refine (HBL.out _ _ bel).mono ?_); rintro e w3 ⟨rfl, b3⟩; obtain ⟨hc3, hf3⟩ := bcell b3; (try simp only [dr_size, dr_cell] at hc3); (try simp only [dr_size, dr_frozen] at hf3); have hz3 := below_size b3; (try simp at hz3); (try have z03 : w.heap.size < w3.heap.size := (by omega)); (try have z13 : w.heap.size + 1 < w3.heap.size := (by omega)); (try have yw13 : w1.heap.size < w3.heap.size := (by omega)); (try have yw23 : w2.heap.size < w3.heap.size := (by omega))) | (go_at_call 38; (with_reducible refine (HBL.out _ _ bel).mono ?_); rintro e w4 ⟨rfl, b4⟩; obtain ⟨hc4, hf4⟩ := bcell b4; (try simp only [dr_size, dr_cell] at hc4); (try simp only [dr_size, dr_frozen] at hf4); have hz4 := below_size b4; (try simp at hz4); (try have z04 : w.heap.size < w4.heap.size := (by omega)); (try have z14 : w.heap.size + 1 < w4.heap.size := (by omega)); (try have yw14 : w1.heap.size < w4.heap.size := (by omega)); (try have yw24 : w2.heap.size < w4.heap.size := (by omega)); (try have yw34 : w3.heap.size < w4.heap.size := (by omega))))
    all_goals
      go_ret
      refine ⟨?_, bel⟩
      simp [fits, *] <;> first | omega | (rw [Bool.eq_iff_iff]; simp [*]; done) | (rw [Bool.eq_iff_iff]; simp; omega)
  · by_cases c2 : cl = 2
    · subst c2
      go_enter Tryz.func7, Tryz.ntmps7
      go_wp2_with (first | (go_at_call 16; (with_reducible refine (HIF.out _).mono ?_); rintro e w1 ⟨rfl, b1⟩; obtain ⟨hc1, hf1⟩ := bcell b1; (try simp only [dr_size, dr_cell] at hc1); (try simp only [dr_size, dr_frozen] at hf1); have hz1 := below_size b1; (try simp at hz1); (try have z01 : w.heap.size < w1.heap.size := (by omega)); (try have z11 : w.heap.size + 1 < w1.heap.size := (by omega))) | (go_at_call 37; (with_reducible refine (HV.out _ bel).mono ?_); rintro e w9 ⟨rfl, rfl⟩) | (go_at_call 17; (with_reducible refine (HFO.out _).mono ?_); rintro e w2 ⟨rfl, b2⟩; obtain ⟨hc2, hf2⟩ := bcell b2; (try simp only [dr_size, dr_cell] at hc2); (try simp only [dr_size, dr_frozen] at hf2); have hz2 := below_size b2; (try simp at hz2); (try have z02 : w.heap.size < w2.heap.size := (by omega)); (try have z12 : w.heap.size + 1 < w2.heap.size := (by omega)); (try have yw12 : w1.heap.size < w2.heap.size := (by omega))) | (go_at_call 38; (with_reducible refine (HBL.out _ _ bel).mono ?_); rintro e w3 ⟨rfl, b3⟩; obtain ⟨hc3, hf3⟩ := bcell b3; (try simp only [dr_size, dr_cell] at hc3); (try simp only [dr_size, dr_frozen] at hf3); have hz3 := below_size b3; (try simp at hz3); (try have z03 : w.heap.size < w3.heap.size := (by omega)); (try have z13 : w.heap.size + 1 < w3.heap.size := (by omega)); (try have yw13 : w1.heap.size < w3.heap.size := (by omega)); (try have yw23 : w2.heap.size < w3.heap.size := (by omega))) | (go_at_call 38; (with_reducible refine (HBL.out _ _ bel).mono ?_); rintro e w4 ⟨rfl, b4⟩; obtain ⟨hc4, hf4⟩ := bcell b4; (try simp only [dr_size, dr_cell] at hc4); (try simp only [dr_size, dr_frozen] at hf4); have hz4 := below_size b4; (try simp at hz4); (try have z04 : w.heap.size < w4.heap.size := (by omega)); (try have z14 : w.heap.size + 1 < w4.heap.size := (by omega)); (try have yw14 : w1.heap.size < w4.heap.size := (by omega)); (try have yw24 : w2.heap.size < w4.heap.size := (by omega)); (try have yw34 : w3.heap.size < w4.heap.size := (by omega))))
      all_goals
        go_ret
        refine ⟨?_, bel⟩
        simp [fits, *] <;> first | omega | (rw [Bool.eq_iff_iff]; simp [*]; done) | (rw [Bool.eq_iff_iff]; simp; omega)
    · by_cases c3 : cl = 3
      · subst c3
        go_enter Tryz.func7, Tryz.ntmps7
        go_wp2_with (first | (go_at_call 16; (with_reducible refine (HIF.out _).mono ?_); rintro e w1 ⟨rfl, b1⟩; obtain ⟨hc1, hf1⟩ := bcell b1; (try simp only [dr_size, dr_cell] at hc1); (try simp only [dr_size, dr_frozen] at hf1); have hz1 := below_size b1; (try simp at hz1); (try have z01 : w.heap.size < w1.heap.size := (by omega)); (try have z11 : w.heap.size + 1 < w1.heap.size := (by omega))) | (go_at_call 37; (with_reducible refine (HV.out _ bel).mono ?_); rintro e w9 ⟨rfl, rfl⟩) | (go_at_call 17; (with_reducible refine (HFO.out _).mono ?_); rintro e w2 ⟨rfl, b2⟩; obtain ⟨hc2, hf2⟩ := bcell b2; (try simp only [dr_size, dr_cell] at hc2); (try simp only [dr_size, dr_frozen] at hf2); have hz2 := below_size b2; (try simp at hz2); (try have z02 : w.heap.size < w2.heap.size := (by omega)); (try have z12 : w.heap.size + 1 < w2.heap.size := (by omega)); (try have yw12 : w1.heap.size < w2.heap.size := (by omega))) | (go_at_call 38; (with_reducible refine (HBL.out _ _ bel).mono ?_); rintro e w3 ⟨rfl, b3⟩; obtain ⟨hc3, hf3⟩ := bcell b3; (try simp only [dr_size, dr_cell] at hc3); (try simp only [dr_size, dr_frozen] at hf3); have hz3 := below_size b3; (try simp at hz3); (try have z03 : w.heap.size < w3.heap.size := (by omega)); (try have z13 : w.heap.size + 1 < w3.heap.size := (by omega)); (try have yw13 : w1.heap.size < w3.heap.size := (by omega)); (try have yw23 : w2.heap.size < w3.heap.size := (by omega))) | (go_at_call 38; (with_reducible refine (HBL.out _ _ bel).mono ?_); rintro e w4 ⟨rfl, b4⟩; obtain ⟨hc4, hf4⟩ := bcell b4; (try simp only [dr_size, dr_cell] at hc4); (try simp only [dr_size, dr_frozen] at hf4); have hz4 := below_size b4; (try simp at hz4); (try have z04 : w.heap.size < w4.heap.size := (by omega)); (try have z14 : w.heap.size + 1 < w4.heap.size := (by omega)); (try have yw14 : w1.heap.size < w4.heap.size := (by omega)); (try have yw24 : w2.heap.size < w4.heap.size := (by omega)); (try have yw34 : w3.heap.size < w4.heap.size := (by omega))))
        all_goals
          go_ret
          refine ⟨?_, bel⟩
          simp [fits, *] <;> first | omega | (rw [Bool.eq_iff_iff]; simp [*]; done) | (rw [Bool.eq_iff_iff]; simp; omega)
      · by_cases c4 : cl = 4
        · subst c4
          go_enter Tryz.func7, Tryz.ntmps7
          go_wp2_with (first | (go_at_call 16; (with_reducible refine (HIF.out _).mono ?_); rintro e w1 ⟨rfl, b1⟩; obtain ⟨hc1, hf1⟩ := bcell b1; (try simp only [dr_size, dr_cell] at hc1); (try simp only [dr_size, dr_frozen] at hf1); have hz1 := below_size b1; (try simp at hz1); (try have z01 : w.heap.size < w1.heap.size := (by omega)); (try have z11 : w.heap.size + 1 < w1.heap.size := (by omega))) | (go_at_call 37; (with_reducible refine (HV.out _ bel).mono ?_); rintro e w9 ⟨rfl, rfl⟩) | (go_at_call 17; (with_reducible refine (HFO.out _).mono ?_); rintro e w2 ⟨rfl, b2⟩; obtain ⟨hc2, hf2⟩ := bcell b2; (try simp only [dr_size, dr_cell] at hc2); (try simp only [dr_size, dr_frozen] at hf2); have hz2 := below_size b2; (try simp at hz2); (try have z02 : w.heap.size < w2.heap.size := (by omega)); (try have z12 : w.heap.size + 1 < w2.heap.size := (by omega)); (try have yw12 : w1.heap.size < w2.heap.size := (by omega))) | (go_at_call 38; (with_reducible refine (HBL.out _ _ bel).mono ?_); rintro e w3 ⟨rfl, b3⟩; obtain ⟨hc3, hf3⟩ := bcell b3; (try simp only [dr_size, dr_cell] at hc3); (try simp only [dr_size, dr_frozen] at hf3); have hz3 := below_size b3; (try simp at hz3); (try have z03 : w.heap.size < w3.heap.size := (by omega)); (try have z13 : w.heap.size + 1 < w3.heap.size := (by omega)); (try have yw13 : w1.heap.size < w3.heap.size := (by omega)); (try have yw23 : w2.heap.size < w3.heap.size := (by omega))) | (go_at_call 38; (with_reducible refine (HBL.out _ _ bel).mono ?_); rintro e w4 ⟨rfl, b4⟩; obtain ⟨hc4, hf4⟩ := bcell b4; (try simp only [dr_size, dr_cell] at hc4); (try simp only [dr_size, dr_frozen] at hf4); have hz4 := below_size b4; (try simp at hz4); (try have z04 : w.heap.size < w4.heap.size := (by omega)); (try have z14 : w.heap.size + 1 < w4.heap.size := (by omega)); (try have yw14 : w1.heap.size < w4.heap.size := (by omega)); (try have yw24 : w2.heap.size < w4.heap.size := (by omega)); (try have yw34 : w3.heap.size < w4.heap.size := (by omega))))
          all_goals
            go_ret
            refine ⟨?_, bel⟩
            simp [fits, *] <;> first | omega | (rw [Bool.eq_iff_iff]; simp [*]; done) | (rw [Bool.eq_iff_iff]; simp; omega)
        · have t1 : (cl == 1) = false := by simpa using c1
          have t2 : (cl == 2) = false := by simpa using c2
          have t3 : (cl == 3) = false := by simpa using c3
          have t4 : (cl == 4) = false := by simpa using c4
          have HF : Hid (fits D L H cl z ex = false) := Lib.hid (by unfold fits; rw [if_neg c1, if_neg c2, if_neg c3, if_neg c4])
          clear c1 c2 c3 c4
          go_enter Tryz.func7, Tryz.ntmps7
          go_wp2_with (first | (go_at_call 16; (with_reducible refine (HIF.out _).mono ?_); rintro e w1 ⟨rfl, b1⟩; obtain ⟨hc1, hf1⟩ := bcell b1; (try simp only [dr_size, dr_cell] at hc1); (try simp only [dr_size, dr_frozen] at hf1); have hz1 := below_size b1; (try simp at hz1); (try have z01 : w.heap.size < w1.heap.size := (by omega)); (try have z11 : w.heap.size + 1 < w1.heap.size := (by omega))) | (go_at_call 37; (with_reducible refine (HV.out _ bel).mono ?_); rintro e w9 ⟨rfl, rfl⟩) | (go_at_call 17; (with_reducible refine (HFO.out _).mono ?_); rintro e w2 ⟨rfl, b2⟩; obtain ⟨hc2, hf2⟩ := bcell b2; (try simp only [dr_size, dr_cell] at hc2); (try simp only [dr_size, dr_frozen] at hf2); have hz2 := below_size b2; (try simp at hz2); (try have z02 : w.heap.size < w2.heap.size := (by omega)); (try have z12 : w.heap.size + 1 < w2.heap.size := (by omega)); (try have yw12 : w1.heap.size < w2.heap.size := (by omega))) | (go_at_call 38; (with_reducible refine (HBL.out _ _ bel).mono ?_); rintro e w3 ⟨rfl, b3⟩; obtain ⟨hc3, hf3⟩ := bcell b3; (try simp only [dr_size, dr_cell] at hc3); (try simp only [dr_size, dr_frozen] at hf3); have hz3 := below_size b3; (try simp at hz3); (try have z03 : w.heap.size < w3.heap.size := (by omega)); (try have z13 : w.heap.size + 1 < w3.heap.size := (by omega)); (try have yw13 : w1.heap.size < w3.heap.size := (by omega)); (try have yw23 : w2.heap.size < w3.heap.size := (by omega))) | (go_at_call 38; (with_reducible refine (HBL.out _ _ bel).mono ?_); rintro e w4 ⟨rfl, b4⟩; obtain ⟨hc4, hf4⟩ := bcell b4; (try simp only [dr_size, dr_cell] at hc4); (try simp only [dr_size, dr_frozen] at hf4); have hz4 := below_size b4; (try simp at hz4); (try have z04 : w.heap.size < w4.heap.size := (by omega)); (try have z14 : w.heap.size + 1 < w4.heap.size := (by omega)); (try have yw14 : w1.heap.size < w4.heap.size := (by omega)); (try have yw24 : w2.heap.size < w4.heap.size := (by omega)); (try have yw34 : w3.heap.size < w4.heap.size := (by omega))))
          all_goals
            go_ret
            exact ⟨by rw [HF.out]; rfl, bel⟩
set_option maxHeartbeats 4000000 in
theorem rval_any {f cl ex : Int} {ng : Bool} {A : Option Addr} {n c : Nat} {a : List Int} (w : World) (hA : Kd.C (Kd.int .u32) w A n a) (la : Lim a) (hc : n ≤ c) :
    Calls Tryz.prog 7 #[dV f cl ng A n c ex] w fun e w' => e = .returned (.bool (datOk f cl a ex)) ∧ Below w.heap.size w w' := by
  have HIF := Lib.hid fun w' => risf_any f w'
  have HV := Lib.hid fun w' (h : Below w.heap.size w w') => rvalid_any A n c a w' (Kd.C_below hA h) la
  unfold datOk hasB
  cases hf : isFm f with
  | false =>
    rw [hf] at HIF
    rw [Bool.false_and]
    clear hA hf
    go_enter Tryz.func7, Tryz.ntmps7
    go_wp2_with (first | (go_at_call 16; (with_reducible refine (HIF.out _).mono ?_); rintro e w1 ⟨rfl, b1⟩; obtain ⟨hc1, hf1⟩ := bcell b1; (try simp only [dr_size, dr_cell] at hc1); (try simp only [dr_size, dr_frozen] at hf1); have hz1 := below_size b1; (try simp at hz1); (try have z01 : w.heap.size < w1.heap.size := (by omega)); (try have z11 : w.heap.size + 1 < w1.heap.size := (by omega))))
    all_goals
      go_ret
      exact ⟨rfl, bel⟩
  | true =>
    rw [hf] at HIF
    cases hok : okN a with
    | false =>
      rw [hok] at HV
      rw [Bool.false_and, Bool.and_false]
      clear hA hf hok
      go_enter Tryz.func7, Tryz.ntmps7
      go_wp2_with (first | (go_at_call 16; (with_reducible refine (HIF.out _).mono ?_); rintro e w1 ⟨rfl, b1⟩; obtain ⟨hc1, hf1⟩ := bcell b1; (try simp only [dr_size, dr_cell] at hc1); (try simp only [dr_size, dr_frozen] at hf1); have hz1 := below_size b1; (try simp at hz1); (try have z01 : w.heap.size < w1.heap.size := (by omega)); (try have z11 : w.heap.size + 1 < w1.heap.size := (by omega))) | (go_at_call 37; (with_reducible refine (HV.out _ bel).mono ?_); rintro e w9 ⟨rfl, rfl⟩))
      all_goals
        go_ret
        exact ⟨rfl, bel⟩
    | true =>
      rw [hok] at HV
      rw [Bool.true_and, Bool.true_and]
      have hl : a.length = n := hA.1
      refine rval_core _ (fmE f) _ _ (fmW f) f cl ng A n c _ ex w ?_ ?_ HIF.out HV.out (fun w' => rformat hf w') (fun d w' h => rbelow_any d w' (Kd.C_below hA h) la hc hok)
      · rcases fm_cases hf with rfl | rfl | rfl | rfl | rfl <;> decide
      · rw [blen_eq_zero, ← hl]
        constructor
        · intro h
          rw [List.eq_nil_of_length_eq_zero h]; rfl
        · intro h
          rw [← ofN_val la (okN_iff.1 hok).2, h, ofN_zero]; rfl
def sorobanref05_Valid.f (a0_0 a0_1 : Int) (a0_2 : Bool) (l0_3 : List Int) (a0_4 : Int) : Option Bool := if u32L l0_3 then some (datOk a0_0 a0_1 l0_3 a0_4) else none
theorem sorobanref05_Valid.calls (a0_0 a0_1 : Int) (a0_2 : Bool) (A0_3 : Option Addr) (c0_3 : Nat) (l0_3 : List Int) (a0_4 : Int) (r : Bool) (w : World) (hr0_3 : Kd.C (Kd.int .u32) w A0_3 l0_3.length l0_3) (hc0_3 : l0_3.length ≤ c0_3) (h : sorobanref05_Valid.f a0_0 a0_1 a0_2 l0_3 a0_4 = some r) :
    Calls Tryz.prog 7 #[.agg #[.int .i64 a0_0, .int .i64 a0_1, .bool a0_2, .slice A0_3 l0_3.length c0_3, .int .i64 a0_4]] w fun e w' => e = .returned (.bool r) ∧ Below w.heap.size w w' := by
  unfold sorobanref05_Valid.f at h
  split at h
  · rename_i hb
    simp only [Option.some.injEq] at h
    subst h
    exact rval_any w hr0_3 (u32L_of hb) hc0_3
  · cases h
end Go.Proofs.YtacnkcojhlbkoaaGreatDoor

set_option linter.unusedSimpArgs false
set_option linter.unusedVariables false
set_option linter.unnecessarySimpa false
namespace Go.Proofs.YtacnkcojhlbkoaaGreatDoor
open Go.RowKit Go.Proofs.YtacnkcojhlbkoaaGreatDoorW.PrintWords Go.Proofs.YtacnkcojhlbkoaaGreatDoorW.PrintLast Go.Proofs.YtacnkcojhlbkoaaGreatDoorW.PrintMore Go.Proofs.YtacnkcojhlbkoaaGreatDoor.NL
set_option maxRecDepth 100000
set_option exponentiation.threshold 33000

end Go.Proofs.YtacnkcojhlbkoaaGreatDoor

set_option linter.unusedSimpArgs false
set_option linter.unusedVariables false
set_option linter.unnecessarySimpa false
namespace Go.Proofs.YtacnkcojhlbkoaaGreatDoor
open Go.RowKit Go.Proofs.YtacnkcojhlbkoaaGreatDoorW.PrintWords Go.Proofs.YtacnkcojhlbkoaaGreatDoorW.PrintLast Go.Proofs.YtacnkcojhlbkoaaGreatDoorW.PrintMore Go.Proofs.YtacnkcojhlbkoaaGreatDoor.NL
set_option maxRecDepth 100000

end Go.Proofs.YtacnkcojhlbkoaaGreatDoor

set_option linter.unusedSimpArgs false
set_option linter.unusedVariables false
set_option linter.unnecessarySimpa false
namespace Go.Proofs.YtacnkcojhlbkoaaGreatDoor
open Go.RowKit Go.Proofs.YtacnkcojhlbkoaaGreatDoorW.PrintWords Go.Proofs.YtacnkcojhlbkoaaGreatDoorW.PrintLast Go.Proofs.YtacnkcojhlbkoaaGreatDoorW.PrintMore Go.Proofs.YtacnkcojhlbkoaaGreatDoor.NL
set_option maxRecDepth 100000
set_option exponentiation.threshold 33000

end Go.Proofs.YtacnkcojhlbkoaaGreatDoor

set_option linter.unusedSimpArgs false
set_option linter.unusedVariables false
set_option linter.unnecessarySimpa false
namespace Go.Proofs.YtacnkcojhlbkoaaGreatDoor
open Go.RowKit Go.Proofs.YtacnkcojhlbkoaaGreatDoorW.PrintWords Go.Proofs.YtacnkcojhlbkoaaGreatDoorW.PrintLast Go.Proofs.YtacnkcojhlbkoaaGreatDoorW.PrintMore Go.Proofs.YtacnkcojhlbkoaaGreatDoor.NL
set_option maxRecDepth 100000
set_option exponentiation.threshold 33000

theorem rgreat_any {f : Int} (w : World) (hf : isFm f = true) : Calls Tryz.prog 20 #[.int .i64 f] w (DatumP f 1 false (ofN (2 ^ (oneN f + 1) - 1)) (fmH f) w) := by
  refine XBitz.sorobanref05_Greatest.calls f f 1 false (ofN (2 ^ (oneN f + 1) - 1)) (fmH f) w ?_
  have h : XBitz.sorobanref05_Greatest.f f = some (f, 1, false, ofN (2 ^ (oneN f + 1) - 1), fmH f) := by
    rcases fm_cases hf with rfl | rfl | rfl | rfl | rfl <;> decide +kernel
  exact h
def sorobanref05_Format.f (a0 : Int) : Option (Int × Int × Int × Int × Int) := if isFm a0 then some (fmD a0, fmE a0, fmL a0, fmH a0, fmW a0) else none
theorem sorobanref05_Format.calls (a0 : Int) (r1 r2 r3 r4 r5 : Int) (w : World) (h : sorobanref05_Format.f a0 = some (r1, r2, r3, r4, r5)) :
    Calls Tryz.prog 17 #[.int .i64 a0] w fun e w' => e = .returned (.agg #[.int .i64 r1, .int .i64 r2, .int .i64 r3, .int .i64 r4, .int .i64 r5]) ∧ Below w.heap.size w w' := by
  unfold sorobanref05_Format.f at h
  split at h
  · rename_i hb
    simp only [Option.some.injEq, Prod.mk.injEq] at h
    obtain ⟨rfl, rfl, rfl, rfl, rfl⟩ := h
    exact rformat hb w
  · cases h
def sorobanref05_Greatest.f (a0 : Int) : Option (Int × Int × Bool × List Int × Int) := if isFm a0 then some (a0, 1, false, ofN (2 ^ (oneN a0 + 1) - 1), fmH a0) else none
theorem sorobanref05_Greatest.calls (a0 : Int) (r1 r2 : Int) (r3 : Bool) (r4 : List Int) (r5 : Int) (w : World) (h : sorobanref05_Greatest.f a0 = some (r1, r2, r3, r4, r5)) :
    Calls Tryz.prog 20 #[.int .i64 a0] w fun e w' => ∃ v3_ : Value, e = .returned (.agg #[.int .i64 r1, .int .i64 r2, .bool r3, v3_, .int .i64 r5]) ∧ Kd.R (Kd.int .u32) 40 w' w.heap.size (fun _ => True) v3_ r4 ∧ Below w.heap.size w w' := by
  unfold sorobanref05_Greatest.f at h
  split at h
  · rename_i hb
    simp only [Option.some.injEq, Prod.mk.injEq] at h
    obtain ⟨rfl, rfl, rfl, rfl, rfl⟩ := h
    exact rgreat_any w hb
  · cases h
def sorobanref05_IsFormat.f (a0 : Int) : Option Bool := some (isFm a0)
theorem sorobanref05_IsFormat.calls (a0 : Int) (r : Bool) (w : World) (h : sorobanref05_IsFormat.f a0 = some r) :
    Calls Tryz.prog 16 #[.int .i64 a0] w fun e w' => e = .returned (.bool r) ∧ Below w.heap.size w w' := by
  unfold sorobanref05_IsFormat.f at h
  simp only [Option.some.injEq] at h
  subst h
  exact risf_any a0 w
def sorobanref05_Power.f (a0 : Int) : Option (List Int) := if 0 ≤ a0 ∧ a0 ≤ 1000 then some (ofN (2 ^ a0.toNat)) else none
theorem sorobanref05_Power.calls (a0 : Int) (r : List Int) (w : World) (h : sorobanref05_Power.f a0 = some r) :
    Calls Tryz.prog 56 #[.int .i64 a0] w fun e w' => ∃ v0_ : Value, e = .returned (v0_) ∧ Kd.R (Kd.int .u32) 40 w' w.heap.size (fun _ => True) v0_ r ∧ Below w.heap.size w w' := by
  unfold sorobanref05_Power.f at h
  split at h
  · rename_i hb
    simp only [Option.some.injEq] at h
    subst h
    refine XBitz.sorobanref05_Power.calls a0 _ w ?_
    have h1 : val [1] = 1 := by decide
    have h2 : u32L [1] = true := by decide
    unfold XBitz.sorobanref05_Power.f sorobanref01_Shl.f
    rw [h1, h2, decide_eq_true ⟨by simp, by simp, by omega, by omega⟩, Nat.one_mul]; rfl
  · cases h
end Go.Proofs.YtacnkcojhlbkoaaGreatDoor
