/- binary: what the bits of a NaN mean. binary: what bits mean, in plain numbers: a valid datum; packing leads back. -/
import Derived.Test.YtacnkcojhlbkoaaGreatDoorJVal11
set_option linter.unusedSimpArgs false
set_option linter.unusedVariables false
set_option linter.unnecessarySimpa false
namespace Go.Proofs.YtacnkcojhlbkoaaGreatDoor
open Go.RowKit Go.Proofs.YtacnkcojhlbkoaaGreatDoorW.PrintWords Go.Proofs.YtacnkcojhlbkoaaGreatDoorW.PrintLast Go.Proofs.YtacnkcojhlbkoaaGreatDoorW.PrintMore Go.Proofs.YtacnkcojhlbkoaaGreatDoor.NL
set_option maxRecDepth 100000
set_option exponentiation.threshold 130

set_option maxHeartbeats 8000000 in
theorem mean_E1 {F R : Nat} {hi lo : Int} (f : Int) (one : Bool) (w : World) (hR : Wd R hi lo) (hT : F = lastN f) (hF0 : F ≠ 0) (hR0 : R ≠ 0) (hb : (f == 4) = false) (hh : (hi == 0) = false) :
    Calls Tryz.prog 107 #[kV f, wV 0 F, wV hi lo, .bool one] w (MeanP (f == 4) one F (lastN f) R (fmD f - 2).toNat hi lo w) := by
  have HEX := Lib.hid fun w' => explicit_any f w'
  have HLA := Lib.hid fun w' => last_any f w'
  obtain ⟨d1, d2⟩ := D_bd2 f
  obtain ⟨p, hp⟩ : ∃ p : Nat, fmD f - 2 = p := ⟨(fmD f - 2).toNat, by omega⟩
  have hp2 : (fmD f - 2).toNat = p := by omega
  have hwp : IntKind.i64.wrap (p : Int) = p := by rw [IntKind.wrap_i64]; omega
  have HLO : Hid (∀ w', Calls Tryz.prog 106 #[wV hi lo, .int .i64 p] w' (GivesW (R % 2 ^ p) w')) := Lib.hid fun w' => wlow_any p w' hR (by omega)
  rw [hp2]
  obtain ⟨b4, hb4⟩ : ∃ b, (f == 4) = b := ⟨_, rfl⟩
  rw [hb4] at HEX ⊢
  have HR := Lib.hid hR
  unfold kV at *
  clear hp2 hR
  show Calls Tryz.prog 107 #[.agg #[.int .i64 (fmD f), .int .i64 (fmE f), .int .i64 (fmL f), .int .i64 (fmH f), .int .i64 (fmW f), .int .i64 f], wV 0 F, wV hi lo, .bool one] w _
  generalize lastN f = T at *
  generalize fmD f = D at *
  generalize fmE f = E at *
  generalize fmL f = L at *
  generalize fmH f = H at *
  generalize fmW f = W at *
  obtain rfl : b4 = false := hb4.symm.trans hb
  clear hb hb4
  have hpost : ∀ h4 l4 w' e, Hid (Wd (R % 2 ^ p) h4 l4) → e = .returned (.iface 146 (.agg #[.int .u64 h4, .int .u64 l4, .bool (!(h4 == hi && l4 == lo))])) → Below w.heap.size w w' → MeanP false one F T R p hi lo w e w' := fun h4 l4 w' e hw h1 h2 => ⟨h2, by
    rw [if_neg (by simp), if_neg (by simp [hF0]), if_neg (by simp [hT]), if_neg hR0]
    refine ⟨h4, l4, ?_, hw⟩
    rw [h1]
    have e1 := hw.out.same HR.out
    have e2 : (!(h4 == hi && l4 == lo)) = decide (R % 2 ^ p ≠ R) := by
      rw [Bool.eq_iff_iff]
      simp only [Bool.not_eq_true', Bool.and_eq_false_imp, beq_iff_eq, beq_eq_false_iff_ne, ne_eq, decide_eq_true_eq]
      rw [← e1]
      simp
    rw [e2]⟩
  have t7 : (hi == 0 && lo == 0) = false := by
    have := mt HR.out.zero.mp hR0
    rw [Bool.eq_false_iff]
    simpa using this
  have HPO := Lib.hid hpost
  clear hpost
  clear hF0 hR0
  subst hT
  go_enter Tryz.func107, Tryz.ntmps107
  go_wp2_with (first | (go_at_call 103; (with_reducible refine (HEX.out _).mono ?_); rintro e w1 ⟨rfl, b1⟩; obtain ⟨hc1, hf1⟩ := bcell b1; (try simp only [dr_size, dr_cell] at hc1); (try simp only [dr_size, dr_frozen] at hf1); have hz1 := below_size b1; (try simp at hz1); (try have z01 : w.heap.size < w1.heap.size := (by omega)); (try have z11 : w.heap.size + 1 < w1.heap.size := (by omega)); (try have z21 : w.heap.size + 1 + 1 < w1.heap.size := (by omega)); (try have z31 : w.heap.size + 1 + 1 + 1 < w1.heap.size := (by omega))) | (go_at_call 103; (with_reducible refine (HEX.out _).mono ?_); rintro e w2 ⟨rfl, b2⟩; obtain ⟨hc2, hf2⟩ := bcell b2; (try simp only [dr_size, dr_cell] at hc2); (try simp only [dr_size, dr_frozen] at hf2); have hz2 := below_size b2; (try simp at hz2); (try have z02 : w.heap.size < w2.heap.size := (by omega)); (try have z12 : w.heap.size + 1 < w2.heap.size := (by omega)); (try have z22 : w.heap.size + 1 + 1 < w2.heap.size := (by omega)); (try have z32 : w.heap.size + 1 + 1 + 1 < w2.heap.size := (by omega)); (try have yw12 : w1.heap.size < w2.heap.size := (by omega))))
  go_region_with (first | (go_at_call 123; (with_reducible refine (HLA.out _).mono ?_); rintro e w3 ⟨rfl, b3⟩; obtain ⟨hc3, hf3⟩ := bcell b3; (try simp only [dr_size, dr_cell] at hc3); (try simp only [dr_size, dr_frozen] at hf3); have hz3 := below_size b3; (try simp at hz3); (try have z03 : w.heap.size < w3.heap.size := (by omega)); (try have z13 : w.heap.size + 1 < w3.heap.size := (by omega)); (try have z23 : w.heap.size + 1 + 1 < w3.heap.size := (by omega)); (try have z33 : w.heap.size + 1 + 1 + 1 < w3.heap.size := (by omega)); (try have yw13 : w1.heap.size < w3.heap.size := (by omega)); (try have yw23 : w2.heap.size < w3.heap.size := (by omega))))
  all_goals
    go_wp2_with (first | (go_at_call 106; (with_reducible refine (HLO.out _).mono ?_); rintro e w4 ⟨h4, l4, rfl, hw4, b4⟩; obtain ⟨hc4, hf4⟩ := bcell b4; (try simp only [dr_size, dr_cell] at hc4); (try simp only [dr_size, dr_frozen] at hf4); have hz4 := below_size b4; (try simp at hz4); (try have z04 : w.heap.size < w4.heap.size := (by omega)); (try have z14 : w.heap.size + 1 < w4.heap.size := (by omega)); (try have z24 : w.heap.size + 1 + 1 < w4.heap.size := (by omega)); (try have z34 : w.heap.size + 1 + 1 + 1 < w4.heap.size := (by omega)); (try have yw14 : w1.heap.size < w4.heap.size := (by omega)); (try have yw24 : w2.heap.size < w4.heap.size := (by omega)); (try have yw34 : w3.heap.size < w4.heap.size := (by omega))))
    by_cases e1 : h4 = hi
    · subst e1
      by_cases e2 : l4 = lo
      · subst e2
        go_region
        all_goals
          go_wp2
          exact bodyPost_ret (v := .iface 146 (.agg #[.int .u64 h4, .int .u64 l4, .bool false])) (by simp [results, Tryz.results107, go_sem]) rfl (HPO.out _ _ _ _ hw4 (by simp [*]) bel)
      · have t5 : (l4 == lo) = false := by simpa using e2
        go_region
        all_goals
          go_wp2
          exact bodyPost_ret (v := .iface 146 (.agg #[.int .u64 h4, .int .u64 l4, .bool true])) (by simp [results, Tryz.results107, go_sem]) rfl (HPO.out _ _ _ _ hw4 (by simp [*]) bel)
    · have t5 : (h4 == hi) = false := by simpa using e1
      go_region
      all_goals
        go_wp2
        exact bodyPost_ret (v := .iface 146 (.agg #[.int .u64 h4, .int .u64 l4, .bool true])) (by simp [results, Tryz.results107, go_sem]) rfl (HPO.out _ _ _ _ hw4 (by simp [*]) bel)

set_option maxHeartbeats 8000000 in
theorem mean_E2 {F R : Nat} {hi lo : Int} (f : Int) (one : Bool) (w : World) (hR : Wd R hi lo) (hT : F = lastN f) (hF0 : F ≠ 0) (hR0 : R ≠ 0) (hb : (f == 4) = false) (hh : (hi == 0) = true) (hl : (lo == 0) = false) :
    Calls Tryz.prog 107 #[kV f, wV 0 F, wV hi lo, .bool one] w (MeanP (f == 4) one F (lastN f) R (fmD f - 2).toNat hi lo w) := by
  have HEX := Lib.hid fun w' => explicit_any f w'
  have HLA := Lib.hid fun w' => last_any f w'
  obtain ⟨d1, d2⟩ := D_bd2 f
  obtain ⟨p, hp⟩ : ∃ p : Nat, fmD f - 2 = p := ⟨(fmD f - 2).toNat, by omega⟩
  have hp2 : (fmD f - 2).toNat = p := by omega
  have hwp : IntKind.i64.wrap (p : Int) = p := by rw [IntKind.wrap_i64]; omega
  have HLO : Hid (∀ w', Calls Tryz.prog 106 #[wV hi lo, .int .i64 p] w' (GivesW (R % 2 ^ p) w')) := Lib.hid fun w' => wlow_any p w' hR (by omega)
  rw [hp2]
  obtain ⟨b4, hb4⟩ : ∃ b, (f == 4) = b := ⟨_, rfl⟩
  rw [hb4] at HEX ⊢
  have HR := Lib.hid hR
  unfold kV at *
  clear hp2 hR
  show Calls Tryz.prog 107 #[.agg #[.int .i64 (fmD f), .int .i64 (fmE f), .int .i64 (fmL f), .int .i64 (fmH f), .int .i64 (fmW f), .int .i64 f], wV 0 F, wV hi lo, .bool one] w _
  generalize lastN f = T at *
  generalize fmD f = D at *
  generalize fmE f = E at *
  generalize fmL f = L at *
  generalize fmH f = H at *
  generalize fmW f = W at *
  obtain rfl : b4 = false := hb4.symm.trans hb
  clear hb hb4
  have hpost : ∀ h4 l4 w' e, Hid (Wd (R % 2 ^ p) h4 l4) → e = .returned (.iface 146 (.agg #[.int .u64 h4, .int .u64 l4, .bool (!(h4 == hi && l4 == lo))])) → Below w.heap.size w w' → MeanP false one F T R p hi lo w e w' := fun h4 l4 w' e hw h1 h2 => ⟨h2, by
    rw [if_neg (by simp), if_neg (by simp [hF0]), if_neg (by simp [hT]), if_neg hR0]
    refine ⟨h4, l4, ?_, hw⟩
    rw [h1]
    have e1 := hw.out.same HR.out
    have e2 : (!(h4 == hi && l4 == lo)) = decide (R % 2 ^ p ≠ R) := by
      rw [Bool.eq_iff_iff]
      simp only [Bool.not_eq_true', Bool.and_eq_false_imp, beq_iff_eq, beq_eq_false_iff_ne, ne_eq, decide_eq_true_eq]
      rw [← e1]
      simp
    rw [e2]⟩
  have t7 : (hi == 0 && lo == 0) = false := by
    have := mt HR.out.zero.mp hR0
    rw [Bool.eq_false_iff]
    simpa using this
  have HPO := Lib.hid hpost
  clear hpost
  obtain rfl : hi = 0 := by simpa using hh
  clear hh
  clear hF0 hR0
  subst hT
  go_enter Tryz.func107, Tryz.ntmps107
  go_wp2_with (first | (go_at_call 103; (with_reducible refine (HEX.out _).mono ?_); rintro e w1 ⟨rfl, b1⟩; obtain ⟨hc1, hf1⟩ := bcell b1; (try simp only [dr_size, dr_cell] at hc1); (try simp only [dr_size, dr_frozen] at hf1); have hz1 := below_size b1; (try simp at hz1); (try have z01 : w.heap.size < w1.heap.size := (by omega)); (try have z11 : w.heap.size + 1 < w1.heap.size := (by omega)); (try have z21 : w.heap.size + 1 + 1 < w1.heap.size := (by omega)); (try have z31 : w.heap.size + 1 + 1 + 1 < w1.heap.size := (by omega))) | (go_at_call 103; (with_reducible refine (HEX.out _).mono ?_); rintro e w2 ⟨rfl, b2⟩; obtain ⟨hc2, hf2⟩ := bcell b2; (try simp only [dr_size, dr_cell] at hc2); (try simp only [dr_size, dr_frozen] at hf2); have hz2 := below_size b2; (try simp at hz2); (try have z02 : w.heap.size < w2.heap.size := (by omega)); (try have z12 : w.heap.size + 1 < w2.heap.size := (by omega)); (try have z22 : w.heap.size + 1 + 1 < w2.heap.size := (by omega)); (try have z32 : w.heap.size + 1 + 1 + 1 < w2.heap.size := (by omega)); (try have yw12 : w1.heap.size < w2.heap.size := (by omega))))
  go_region_with (first | (go_at_call 123; (with_reducible refine (HLA.out _).mono ?_); rintro e w3 ⟨rfl, b3⟩; obtain ⟨hc3, hf3⟩ := bcell b3; (try simp only [dr_size, dr_cell] at hc3); (try simp only [dr_size, dr_frozen] at hf3); have hz3 := below_size b3; (try simp at hz3); (try have z03 : w.heap.size < w3.heap.size := (by omega)); (try have z13 : w.heap.size + 1 < w3.heap.size := (by omega)); (try have z23 : w.heap.size + 1 + 1 < w3.heap.size := (by omega)); (try have z33 : w.heap.size + 1 + 1 + 1 < w3.heap.size := (by omega)); (try have yw13 : w1.heap.size < w3.heap.size := (by omega)); (try have yw23 : w2.heap.size < w3.heap.size := (by omega))))
  all_goals
    go_wp2_with (first | (go_at_call 106; (with_reducible refine (HLO.out _).mono ?_); rintro e w4 ⟨h4, l4, rfl, hw4, b4⟩; obtain ⟨hc4, hf4⟩ := bcell b4; (try simp only [dr_size, dr_cell] at hc4); (try simp only [dr_size, dr_frozen] at hf4); have hz4 := below_size b4; (try simp at hz4); (try have z04 : w.heap.size < w4.heap.size := (by omega)); (try have z14 : w.heap.size + 1 < w4.heap.size := (by omega)); (try have z24 : w.heap.size + 1 + 1 < w4.heap.size := (by omega)); (try have z34 : w.heap.size + 1 + 1 + 1 < w4.heap.size := (by omega)); (try have yw14 : w1.heap.size < w4.heap.size := (by omega)); (try have yw24 : w2.heap.size < w4.heap.size := (by omega)); (try have yw34 : w3.heap.size < w4.heap.size := (by omega))))
    by_cases e1 : h4 = 0
    · subst e1
      by_cases e2 : l4 = lo
      · subst e2
        go_region
        all_goals
          go_wp2
          exact bodyPost_ret (v := .iface 146 (.agg #[.int .u64 0, .int .u64 l4, .bool false])) (by simp [results, Tryz.results107, go_sem]) rfl (HPO.out _ _ _ _ hw4 (by simp [*]) bel)
      · have t5 : (l4 == lo) = false := by simpa using e2
        go_region
        all_goals
          go_wp2
          exact bodyPost_ret (v := .iface 146 (.agg #[.int .u64 0, .int .u64 l4, .bool true])) (by simp [results, Tryz.results107, go_sem]) rfl (HPO.out _ _ _ _ hw4 (by simp [*]) bel)
    · have t5 : (h4 == 0) = false := by simpa using e1
      go_region
      all_goals
        go_wp2
        exact bodyPost_ret (v := .iface 146 (.agg #[.int .u64 h4, .int .u64 l4, .bool true])) (by simp [results, Tryz.results107, go_sem]) rfl (HPO.out _ _ _ _ hw4 (by simp [*]) bel)

set_option maxHeartbeats 8000000 in
theorem mean_E3 {F R : Nat} {hi lo : Int} (f : Int) (one : Bool) (w : World) (hR : Wd R hi lo) (hT : F = lastN f) (hF0 : F ≠ 0) (hR0 : R ≠ 0) (hb : (f == 4) = true) (ho : one = true) (hh : (hi == 0) = false) :
    Calls Tryz.prog 107 #[kV f, wV 0 F, wV hi lo, .bool one] w (MeanP (f == 4) one F (lastN f) R (fmD f - 2).toNat hi lo w) := by
  have HEX := Lib.hid fun w' => explicit_any f w'
  have HLA := Lib.hid fun w' => last_any f w'
  obtain ⟨d1, d2⟩ := D_bd2 f
  obtain ⟨p, hp⟩ : ∃ p : Nat, fmD f - 2 = p := ⟨(fmD f - 2).toNat, by omega⟩
  have hp2 : (fmD f - 2).toNat = p := by omega
  have hwp : IntKind.i64.wrap (p : Int) = p := by rw [IntKind.wrap_i64]; omega
  have HLO : Hid (∀ w', Calls Tryz.prog 106 #[wV hi lo, .int .i64 p] w' (GivesW (R % 2 ^ p) w')) := Lib.hid fun w' => wlow_any p w' hR (by omega)
  rw [hp2]
  obtain ⟨b4, hb4⟩ : ∃ b, (f == 4) = b := ⟨_, rfl⟩
  rw [hb4] at HEX ⊢
  have HR := Lib.hid hR
  unfold kV at *
  clear hp2 hR
  show Calls Tryz.prog 107 #[.agg #[.int .i64 (fmD f), .int .i64 (fmE f), .int .i64 (fmL f), .int .i64 (fmH f), .int .i64 (fmW f), .int .i64 f], wV 0 F, wV hi lo, .bool one] w _
  generalize lastN f = T at *
  generalize fmD f = D at *
  generalize fmE f = E at *
  generalize fmL f = L at *
  generalize fmH f = H at *
  generalize fmW f = W at *
  obtain rfl : b4 = true := hb4.symm.trans hb
  clear hb hb4
  subst ho
  have t0 : ((F : Int) == 0) = false := by simp; omega
  have hpost : ∀ h4 l4 w' e, Hid (Wd (R % 2 ^ p) h4 l4) → e = .returned (.iface 146 (.agg #[.int .u64 h4, .int .u64 l4, .bool (!(h4 == hi && l4 == lo))])) → Below w.heap.size w w' → MeanP true true F T R p hi lo w e w' := fun h4 l4 w' e hw h1 h2 => ⟨h2, by
    rw [if_neg (by simp), if_neg (by simp [hF0]), if_neg (by simp [hT]), if_neg hR0]
    refine ⟨h4, l4, ?_, hw⟩
    rw [h1]
    have e1 := hw.out.same HR.out
    have e2 : (!(h4 == hi && l4 == lo)) = decide (R % 2 ^ p ≠ R) := by
      rw [Bool.eq_iff_iff]
      simp only [Bool.not_eq_true', Bool.and_eq_false_imp, beq_iff_eq, beq_eq_false_iff_ne, ne_eq, decide_eq_true_eq]
      rw [← e1]
      simp
    rw [e2]⟩
  have t7 : (hi == 0 && lo == 0) = false := by
    have := mt HR.out.zero.mp hR0
    rw [Bool.eq_false_iff]
    simpa using this
  have HPO := Lib.hid hpost
  clear hpost
  clear hF0 hR0
  subst hT
  go_enter Tryz.func107, Tryz.ntmps107
  go_wp2_with (first | (go_at_call 103; (with_reducible refine (HEX.out _).mono ?_); rintro e w1 ⟨rfl, b1⟩; obtain ⟨hc1, hf1⟩ := bcell b1; (try simp only [dr_size, dr_cell] at hc1); (try simp only [dr_size, dr_frozen] at hf1); have hz1 := below_size b1; (try simp at hz1); (try have z01 : w.heap.size < w1.heap.size := (by omega)); (try have z11 : w.heap.size + 1 < w1.heap.size := (by omega)); (try have z21 : w.heap.size + 1 + 1 < w1.heap.size := (by omega)); (try have z31 : w.heap.size + 1 + 1 + 1 < w1.heap.size := (by omega))) | (go_at_call 103; (with_reducible refine (HEX.out _).mono ?_); rintro e w2 ⟨rfl, b2⟩; obtain ⟨hc2, hf2⟩ := bcell b2; (try simp only [dr_size, dr_cell] at hc2); (try simp only [dr_size, dr_frozen] at hf2); have hz2 := below_size b2; (try simp at hz2); (try have z02 : w.heap.size < w2.heap.size := (by omega)); (try have z12 : w.heap.size + 1 < w2.heap.size := (by omega)); (try have z22 : w.heap.size + 1 + 1 < w2.heap.size := (by omega)); (try have z32 : w.heap.size + 1 + 1 + 1 < w2.heap.size := (by omega)); (try have yw12 : w1.heap.size < w2.heap.size := (by omega))))
  go_region_with (first | (go_at_call 123; (with_reducible refine (HLA.out _).mono ?_); rintro e w3 ⟨rfl, b3⟩; obtain ⟨hc3, hf3⟩ := bcell b3; (try simp only [dr_size, dr_cell] at hc3); (try simp only [dr_size, dr_frozen] at hf3); have hz3 := below_size b3; (try simp at hz3); (try have z03 : w.heap.size < w3.heap.size := (by omega)); (try have z13 : w.heap.size + 1 < w3.heap.size := (by omega)); (try have z23 : w.heap.size + 1 + 1 < w3.heap.size := (by omega)); (try have z33 : w.heap.size + 1 + 1 + 1 < w3.heap.size := (by omega)); (try have yw13 : w1.heap.size < w3.heap.size := (by omega)); (try have yw23 : w2.heap.size < w3.heap.size := (by omega))))
  all_goals
    go_wp2_with (first | (go_at_call 106; (with_reducible refine (HLO.out _).mono ?_); rintro e w4 ⟨h4, l4, rfl, hw4, b4⟩; obtain ⟨hc4, hf4⟩ := bcell b4; (try simp only [dr_size, dr_cell] at hc4); (try simp only [dr_size, dr_frozen] at hf4); have hz4 := below_size b4; (try simp at hz4); (try have z04 : w.heap.size < w4.heap.size := (by omega)); (try have z14 : w.heap.size + 1 < w4.heap.size := (by omega)); (try have z24 : w.heap.size + 1 + 1 < w4.heap.size := (by omega)); (try have z34 : w.heap.size + 1 + 1 + 1 < w4.heap.size := (by omega)); (try have yw14 : w1.heap.size < w4.heap.size := (by omega)); (try have yw24 : w2.heap.size < w4.heap.size := (by omega)); (try have yw34 : w3.heap.size < w4.heap.size := (by omega))))
    by_cases e1 : h4 = hi
    · subst e1
      by_cases e2 : l4 = lo
      · subst e2
        go_region
        all_goals
          go_wp2
          exact bodyPost_ret (v := .iface 146 (.agg #[.int .u64 h4, .int .u64 l4, .bool false])) (by simp [results, Tryz.results107, go_sem]) rfl (HPO.out _ _ _ _ hw4 (by simp [*]) bel)
      · have t5 : (l4 == lo) = false := by simpa using e2
        go_region
        all_goals
          go_wp2
          exact bodyPost_ret (v := .iface 146 (.agg #[.int .u64 h4, .int .u64 l4, .bool true])) (by simp [results, Tryz.results107, go_sem]) rfl (HPO.out _ _ _ _ hw4 (by simp [*]) bel)
    · have t5 : (h4 == hi) = false := by simpa using e1
      go_region
      all_goals
        go_wp2
        exact bodyPost_ret (v := .iface 146 (.agg #[.int .u64 h4, .int .u64 l4, .bool true])) (by simp [results, Tryz.results107, go_sem]) rfl (HPO.out _ _ _ _ hw4 (by simp [*]) bel)

set_option maxHeartbeats 8000000 in
theorem mean_E4 {F R : Nat} {hi lo : Int} (f : Int) (one : Bool) (w : World) (hR : Wd R hi lo) (hT : F = lastN f) (hF0 : F ≠ 0) (hR0 : R ≠ 0) (hb : (f == 4) = true) (ho : one = true) (hh : (hi == 0) = true) (hl : (lo == 0) = false) :
    Calls Tryz.prog 107 #[kV f, wV 0 F, wV hi lo, .bool one] w (MeanP (f == 4) one F (lastN f) R (fmD f - 2).toNat hi lo w) := by
  have HEX := Lib.hid fun w' => explicit_any f w'
  have HLA := Lib.hid fun w' => last_any f w'
  obtain ⟨d1, d2⟩ := D_bd2 f
  obtain ⟨p, hp⟩ : ∃ p : Nat, fmD f - 2 = p := ⟨(fmD f - 2).toNat, by omega⟩
  have hp2 : (fmD f - 2).toNat = p := by omega
  have hwp : IntKind.i64.wrap (p : Int) = p := by rw [IntKind.wrap_i64]; omega
  have HLO : Hid (∀ w', Calls Tryz.prog 106 #[wV hi lo, .int .i64 p] w' (GivesW (R % 2 ^ p) w')) := Lib.hid fun w' => wlow_any p w' hR (by omega)
  rw [hp2]
  obtain ⟨b4, hb4⟩ : ∃ b, (f == 4) = b := ⟨_, rfl⟩
  rw [hb4] at HEX ⊢
  have HR := Lib.hid hR
  unfold kV at *
  clear hp2 hR
  show Calls Tryz.prog 107 #[.agg #[.int .i64 (fmD f), .int .i64 (fmE f), .int .i64 (fmL f), .int .i64 (fmH f), .int .i64 (fmW f), .int .i64 f], wV 0 F, wV hi lo, .bool one] w _
  generalize lastN f = T at *
  generalize fmD f = D at *
  generalize fmE f = E at *
  generalize fmL f = L at *
  generalize fmH f = H at *
  generalize fmW f = W at *
  obtain rfl : b4 = true := hb4.symm.trans hb
  clear hb hb4
  subst ho
  have t0 : ((F : Int) == 0) = false := by simp; omega
  have hpost : ∀ h4 l4 w' e, Hid (Wd (R % 2 ^ p) h4 l4) → e = .returned (.iface 146 (.agg #[.int .u64 h4, .int .u64 l4, .bool (!(h4 == hi && l4 == lo))])) → Below w.heap.size w w' → MeanP true true F T R p hi lo w e w' := fun h4 l4 w' e hw h1 h2 => ⟨h2, by
    rw [if_neg (by simp), if_neg (by simp [hF0]), if_neg (by simp [hT]), if_neg hR0]
    refine ⟨h4, l4, ?_, hw⟩
    rw [h1]
    have e1 := hw.out.same HR.out
    have e2 : (!(h4 == hi && l4 == lo)) = decide (R % 2 ^ p ≠ R) := by
      rw [Bool.eq_iff_iff]
      simp only [Bool.not_eq_true', Bool.and_eq_false_imp, beq_iff_eq, beq_eq_false_iff_ne, ne_eq, decide_eq_true_eq]
      rw [← e1]
      simp
    rw [e2]⟩
  have t7 : (hi == 0 && lo == 0) = false := by
    have := mt HR.out.zero.mp hR0
    rw [Bool.eq_false_iff]
    simpa using this
  have HPO := Lib.hid hpost
  clear hpost
  obtain rfl : hi = 0 := by simpa using hh
  clear hh
  clear hF0 hR0
  subst hT
  go_enter Tryz.func107, Tryz.ntmps107
  go_wp2_with (first | (go_at_call 103; (with_reducible refine (HEX.out _).mono ?_); rintro e w1 ⟨rfl, b1⟩; obtain ⟨hc1, hf1⟩ := bcell b1; (try simp only [dr_size, dr_cell] at hc1); (try simp only [dr_size, dr_frozen] at hf1); have hz1 := below_size b1; (try simp at hz1); (try have z01 : w.heap.size < w1.heap.size := (by omega)); (try have z11 : w.heap.size + 1 < w1.heap.size := (by omega)); (try have z21 : w.heap.size + 1 + 1 < w1.heap.size := (by omega)); (try have z31 : w.heap.size + 1 + 1 + 1 < w1.heap.size := (by omega))) | (go_at_call 103; (with_reducible refine (HEX.out _).mono ?_); rintro e w2 ⟨rfl, b2⟩; obtain ⟨hc2, hf2⟩ := bcell b2; (try simp only [dr_size, dr_cell] at hc2); (try simp only [dr_size, dr_frozen] at hf2); have hz2 := below_size b2; (try simp at hz2); (try have z02 : w.heap.size < w2.heap.size := (by omega)); (try have z12 : w.heap.size + 1 < w2.heap.size := (by omega)); (try have z22 : w.heap.size + 1 + 1 < w2.heap.size := (by omega)); (try have z32 : w.heap.size + 1 + 1 + 1 < w2.heap.size := (by omega)); (try have yw12 : w1.heap.size < w2.heap.size := (by omega))))
  go_region_with (first | (go_at_call 123; (with_reducible refine (HLA.out _).mono ?_); rintro e w3 ⟨rfl, b3⟩; obtain ⟨hc3, hf3⟩ := bcell b3; (try simp only [dr_size, dr_cell] at hc3); (try simp only [dr_size, dr_frozen] at hf3); have hz3 := below_size b3; (try simp at hz3); (try have z03 : w.heap.size < w3.heap.size := (by omega)); (try have z13 : w.heap.size + 1 < w3.heap.size := (by omega)); (try have z23 : w.heap.size + 1 + 1 < w3.heap.size := (by omega)); (try have z33 : w.heap.size + 1 + 1 + 1 < w3.heap.size := (by omega)); (try have yw13 : w1.heap.size < w3.heap.size := (by omega)); (try have yw23 : w2.heap.size < w3.heap.size := (by omega))))
  all_goals
    go_wp2_with (first | (go_at_call 106; (with_reducible refine (HLO.out _).mono ?_); rintro e w4 ⟨h4, l4, rfl, hw4, b4⟩; obtain ⟨hc4, hf4⟩ := bcell b4; (try simp only [dr_size, dr_cell] at hc4); (try simp only [dr_size, dr_frozen] at hf4); have hz4 := below_size b4; (try simp at hz4); (try have z04 : w.heap.size < w4.heap.size := (by omega)); (try have z14 : w.heap.size + 1 < w4.heap.size := (by omega)); (try have z24 : w.heap.size + 1 + 1 < w4.heap.size := (by omega)); (try have z34 : w.heap.size + 1 + 1 + 1 < w4.heap.size := (by omega)); (try have yw14 : w1.heap.size < w4.heap.size := (by omega)); (try have yw24 : w2.heap.size < w4.heap.size := (by omega)); (try have yw34 : w3.heap.size < w4.heap.size := (by omega))))
    by_cases e1 : h4 = 0
    · subst e1
      by_cases e2 : l4 = lo
      · subst e2
        go_region
        all_goals
          go_wp2
          exact bodyPost_ret (v := .iface 146 (.agg #[.int .u64 0, .int .u64 l4, .bool false])) (by simp [results, Tryz.results107, go_sem]) rfl (HPO.out _ _ _ _ hw4 (by simp [*]) bel)
      · have t5 : (l4 == lo) = false := by simpa using e2
        go_region
        all_goals
          go_wp2
          exact bodyPost_ret (v := .iface 146 (.agg #[.int .u64 0, .int .u64 l4, .bool true])) (by simp [results, Tryz.results107, go_sem]) rfl (HPO.out _ _ _ _ hw4 (by simp [*]) bel)
    · have t5 : (h4 == 0) = false := by simpa using e1
      go_region
      all_goals
        go_wp2
        exact bodyPost_ret (v := .iface 146 (.agg #[.int .u64 h4, .int .u64 l4, .bool true])) (by simp [results, Tryz.results107, go_sem]) rfl (HPO.out _ _ _ _ hw4 (by simp [*]) bel)

theorem meaning_any {F R : Nat} {hi lo : Int} (f : Int) (one : Bool) (w : World) (hR : Wd R hi lo) :
    Calls Tryz.prog 107 #[kV f, wV 0 F, wV hi lo, .bool one] w (MeanP (f == 4) one F (lastN f) R (fmD f - 2).toNat hi lo w) := by
  have hl0 : lastN f ≠ 0 := by
    obtain ⟨h1, h2⟩ := fmE_bd f
    unfold lastN
    omega
  by_cases hA : (f == 4) = true ∧ one = false ∧ F ≠ 0
  · exact mean_A f one w hR hA.1 hA.2.1 hA.2.2
  · by_cases hB : (f == 4) = true ∧ one = true ∧ F = 0
    · exact mean_B f one w hR hB.1 hB.2.1 hB.2.2
    · by_cases hT : F = lastN f
      · have hF : F ≠ 0 := by rw [hT]; exact hl0
        by_cases hR0 : R = 0
        · cases h4 : (f == 4) with
          | false => rw [← h4]; exact mean_D1 f one w hR hT hF h4 hR0
          | true =>
            rw [← h4]
            cases one with
            | false => exact absurd ⟨h4, rfl, hF⟩ hA
            | true => exact mean_D2 f true w hR hT hF h4 rfl hR0
        · have hz := mt hR.zero.mp hR0
          cases hh : (hi == 0) with
          | false =>
            cases h4 : (f == 4) with
            | false => rw [← h4]; exact mean_E1 f one w hR hT hF hR0 h4 hh
            | true =>
              rw [← h4]
              cases one with
              | false => exact absurd ⟨h4, rfl, hF⟩ hA
              | true => exact mean_E3 f true w hR hT hF hR0 h4 rfl hh
          | true =>
            have hl : (lo == 0) = false := by
              cases h : (lo == 0) with
              | false => rfl
              | true => exact absurd ⟨by simpa using hh, by simpa using h⟩ hz
            cases h4 : (f == 4) with
            | false => rw [← h4]; exact mean_E2 f one w hR hT hF hR0 h4 hh hl
            | true =>
              rw [← h4]
              cases one with
              | false => exact absurd ⟨h4, rfl, hF⟩ hA
              | true => exact mean_E4 f true w hR hT hF hR0 h4 rfl hh hl
      · cases h4 : (f == 4) with
        | false => rw [← h4]; exact mean_C1 f one w hR hT hA hB h4
        | true =>
          rw [← h4]
          cases one with
          | false => exact mean_C2 f false w hR hT hA hB h4 rfl
          | true => exact mean_C3 f true w hR hT hA hB h4 rfl
end Go.Proofs.YtacnkcojhlbkoaaGreatDoor

set_option linter.unusedSimpArgs false
set_option linter.unusedVariables false
set_option linter.unnecessarySimpa false
namespace Go.Proofs.YtacnkcojhlbkoaaGreatDoor
open Go.RowKit Go.Proofs.YtacnkcojhlbkoaaGreatDoorW.PrintWords Go.Proofs.YtacnkcojhlbkoaaGreatDoorW.PrintLast Go.Proofs.YtacnkcojhlbkoaaGreatDoorW.PrintMore Go.Proofs.YtacnkcojhlbkoaaGreatDoor.NL
set_option maxRecDepth 100000
set_option exponentiation.threshold 130

/-- What a field, an integer bit and a fraction mean: class, coefficient, exponent. -/
def decT (b4 one : Bool) (F T R d on : Nat) (L : Int) : Int × Nat × Int :=
  if b4 = true ∧ one = false ∧ F ≠ 0 then (4, 1, 0)
  else if b4 = true ∧ one = true ∧ F = 0 then (1, R + 2 ^ on, L)
  else if F ≠ T then (1, if F = 0 then R else R + 2 ^ on, if F = 0 then L else L + F - 1)
  else if R = 0 then (2, 0, 0)
  else (if R % 2 ^ d ≠ R then 3 else 4, R % 2 ^ d, 0)
def decF (f : Int) (N : Nat) : Nat := N / 2 ^ frontN f % 2 ^ (topN f - frontN f)
def decR (f : Int) (N : Nat) : Nat := N % 2 ^ oneN f
def decOne (f : Int) (N : Nat) : Bool := (f == 4) && (N / 2 ^ oneN f % 2 == 1)
def decNeg (f : Int) (N : Nat) : Bool := N / 2 ^ topN f == 1
/-- The datum of bits: class, coefficient, exponent. -/
def decN (f : Int) (N : Nat) : Int × Nat × Int := decT (f == 4) (decOne f N) (decF f N) (lastN f) (decR f N) (fmD f - 2).toNat (oneN f) (fmL f)

/-- Numbers of a format. -/
theorem fm_nums {f : Int} (hf : isFm f = true) : fmD f = oneN f + 1 ∧ (fmD f - 2).toNat + 1 = oneN f ∧ lastN f + 1 = 2 ^ (topN f - frontN f) ∧ fmH f = fmL f + lastN f - 2 ∧ 30 ≤ lastN f ∧ oneN f ≤ 112 ∧ 10 ≤ oneN f := by
  rcases fm_cases hf with rfl | rfl | rfl | rfl | rfl <;> decide
theorem decF_le {f : Int} (hf : isFm f = true) (N : Nat) : decF f N ≤ lastN f := by
  obtain ⟨-, -, h, -⟩ := fm_nums hf
  have : decF f N < 2 ^ (topN f - frontN f) := Nat.mod_lt _ (Nat.two_pow_pos _)
  omega
theorem decR_lt (f : Int) (N : Nat) : decR f N < 2 ^ oneN f := Nat.mod_lt _ (Nat.two_pow_pos _)
theorem blen_top {R k : Nat} (h : R < 2 ^ k) : blen (R + 2 ^ k) = k + 1 := blen_of (by omega) (by rw [Nat.pow_succ]; omega)
/-- What parts mean is a valid datum. -/
theorem decT_ok {f : Int} (hf : isFm f = true) {one : Bool} {F R : Nat} (h1 : (f == 4) = false → one = false) (hF : F ≤ lastN f) (hR : R < 2 ^ oneN f) :
    fits (fmD f) (fmL f) (fmH f) (decT (f == 4) one F (lastN f) R (fmD f - 2).toNat (oneN f) (fmL f)).1 (blen (decT (f == 4) one F (lastN f) R (fmD f - 2).toNat (oneN f) (fmL f)).2.1) (decT (f == 4) one F (lastN f) R (fmD f - 2).toNat (oneN f) (fmL f)).2.2 = true ∧ (decT (f == 4) one F (lastN f) R (fmD f - 2).toNat (oneN f) (fmL f)).2.1 < 2 ^ (oneN f + 1) := by
  obtain ⟨e1, e2, -, e4, e5, e6, e7⟩ := fm_nums hf
  have hR2 := blen_le.2 hR
  have ht := blen_top hR
  have hp : 2 ^ (oneN f + 1) = 2 * 2 ^ oneN f := by rw [Nat.pow_succ]; omega
  have hpd : 2 ^ oneN f = 2 * 2 ^ (fmD f - 2).toNat := by rw [← e2, Nat.pow_succ]; omega
  have hm : R % 2 ^ (fmD f - 2).toNat < 2 ^ (fmD f - 2).toNat := Nat.mod_lt _ (Nat.two_pow_pos _)
  have hm2 := blen_le.2 hm
  have hpos := Nat.two_pow_pos (fmD f - 2).toNat
  unfold decT
  split
  · refine ⟨?_, by simp only; omega⟩
    simp [fits, blen_one]; omega
  · split
    · refine ⟨?_, by simp only; omega⟩
      show fits (fmD f) (fmL f) (fmH f) 1 (blen (R + 2 ^ oneN f) : Nat) (fmL f) = true
      unfold fits
      rw [if_pos rfl, ht]
      simp only [Bool.and_eq_true, Bool.or_eq_true, decide_eq_true_eq]; omega
    · split
      · refine ⟨?_, by simp only; split <;> omega⟩
        show fits (fmD f) (fmL f) (fmH f) 1 (blen (if F = 0 then R else R + 2 ^ oneN f) : Nat) (if F = 0 then fmL f else fmL f + F - 1) = true
        unfold fits
        rw [if_pos rfl]
        simp only [Bool.and_eq_true, Bool.or_eq_true, decide_eq_true_eq]
        by_cases h0 : F = 0
        · rw [if_pos h0, if_pos h0]; omega
        · rw [if_neg h0, if_neg h0, ht]; omega
      · split
        · refine ⟨?_, by simp only; omega⟩
          simp [fits, blen_zero]
        · refine ⟨?_, by simp only; omega⟩
          show fits (fmD f) (fmL f) (fmH f) (if R % 2 ^ (fmD f - 2).toNat ≠ R then 3 else 4) (blen (R % 2 ^ (fmD f - 2).toNat) : Nat) 0 = true
          by_cases hq : R % 2 ^ (fmD f - 2).toNat = R
          · have h0 : R ≠ 0 := by assumption
            have : blen (R % 2 ^ (fmD f - 2).toNat) ≠ 0 := by rw [Ne, blen_eq_zero, hq]; exact h0
            rw [if_neg (by simpa using hq)]
            unfold fits
            rw [if_neg (by decide), if_neg (by decide), if_neg (by decide), if_pos rfl]
            generalize blen (R % 2 ^ (fmD f - 2).toNat) = bl at *
            simp only [Bool.and_eq_true, decide_eq_true_eq]
            refine ⟨⟨?_, ?_⟩, trivial⟩ <;> omega
          · rw [if_pos hq]
            unfold fits
            rw [if_neg (by decide), if_neg (by decide), if_pos rfl]
            generalize blen (R % 2 ^ (fmD f - 2).toNat) = bl at *
            simp only [Bool.and_eq_true, decide_eq_true_eq]
            refine ⟨?_, trivial⟩
            omega
theorem dec_ok {f : Int} (hf : isFm f = true) (N : Nat) : fits (fmD f) (fmL f) (fmH f) (decN f N).1 (blen (decN f N).2.1) (decN f N).2.2 = true ∧ (decN f N).2.1 < 2 ^ (oneN f + 1) :=
  decT_ok hf (fun h => by unfold decOne; rw [h]; rfl) (decF_le hf N) (decR_lt f N)
theorem ok_ofN {x : Nat} (hx : x < W128) : okN (ofN x) = true := by
  have h1 : (ofN x).length ≤ 4 := len_ofN_le (k := 4) (by have : W128 = 4294967296 ^ 4 := by decide
                                                          omega)
  exact okN_iff.2 ⟨by omega, top_ofN x⟩
theorem hasB_ofN {f cl ex : Int} {x : Nat} (hx : x < W128) : hasB f cl (ofN x) ex = fits (fmD f) (fmL f) (fmH f) cl (blen x) ex := by
  unfold hasB
  rw [ok_ofN hx, val_ofN]; rfl
theorem dec_128 {f : Int} (hf : isFm f = true) (N : Nat) : (decN f N).2.1 < W128 :=
  Nat.lt_of_lt_of_le (dec_ok hf N).2 (Nat.le_trans (Nat.pow_le_pow_right (by omega) (by have := fm_nums hf; omega)) (show 2 ^ 128 ≤ W128 by decide))
theorem dec_has {f : Int} (hf : isFm f = true) (N : Nat) : hasB f (decN f N).1 (ofN (decN f N).2.1) (decN f N).2.2 = true := by
  rw [hasB_ofN (dec_128 hf N)]; exact (dec_ok hf N).1

end Go.Proofs.YtacnkcojhlbkoaaGreatDoor
