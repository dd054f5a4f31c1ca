/- The law DecimalBack: its walk in four cases. Natural numbers that a row hands in. The law DecimalBack: it answers true: its walk joined with the plain law of decimal bits. -/
import Derived.Test.YtiplbpfdkcddlaaDoorJD18
import Derived.Test.YtiplbpfdkcddlaaDoorJD8
import Derived.Test.YtiplbpfdkcddlaaDoorJD7
import Derived.ProofKit
import Derived.OpenShut
set_option linter.unusedSimpArgs false
set_option linter.unusedVariables false
set_option linter.unnecessarySimpa false
namespace Go.Proofs.YtiplbpfdkcddlaaDoor
open Go.RowKit Go.Proofs.YtiplbpfdkcddlaaDoorW.PrintWords Go.Proofs.YtiplbpfdkcddlaaDoorW.PrintLast Go.Proofs.YtiplbpfdkcddlaaDoorW.PrintMore Go.Proofs.YtiplbpfdkcddlaaDoor.NL
set_option maxRecDepth 100000
set_option exponentiation.threshold 33000
set_option maxHeartbeats 16000000 in
theorem back_tt {f cl ex fm enc hi0 lo0 F CL EX er : Int} {ng NG CB : Bool} {A : Option Addr} {n c M M2 : Nat} {l L : List Int} {X : Nat → Nat} (w : World)
    (hA : Kd.C (Kd.int .u32) w A n l) (hc : n ≤ c)
    (HAw : Hid (∀ w', Below w.heap.size w w' → Calls Tryd.prog 5 #[] w' fun r w'' => r = .returned (.bool true) ∧ Below w'.heap.size w' w''))
    (HEn : Hid (∀ (k : Nat) w', 1 ≤ k → k ≤ 2 → Below w.heap.size w w' → Kd.C (Kd.int .u32) w' A n l → Calls Tryd.prog 9 #[dV f cl ng A n c ex, .int .i64 (k : Nat)] w' (EncP (X k) w')))
    (HDe : Hid (∀ (k : Nat) hi lo w', 1 ≤ k → k ≤ 2 → Below w.heap.size w w' → Hid (Wd (X k) hi lo) → Calls Tryd.prog 10 #[.int .i64 f, .int .i64 (k : Nat), wV hi lo] w' fun r w'' => ∃ u, r = .returned (.tuple #[.agg #[.int .i64 f, .int .i64 cl, .bool ng, u, .int .i64 ex], .bool true, .int .i64 0]) ∧ Kd.R (Kd.int .u32) 46 w'' w'.heap.size (fun _ => True) u l ∧ Below w'.heap.size w' w''))
    (HEq : Hid (∀ A' n' c' w', Kd.C (Kd.int .u32) w' A' n' l → n' ≤ c' → Kd.C (Kd.int .u32) w' A n l → Calls Tryd.prog 11 #[dV f cl ng A' n' c' ex, dV f cl ng A n c ex] w' fun r w'' => r = .returned (.bool true) ∧ Below w'.heap.size w' w''))
    (her : (er != 0) = true)
    (HDr : Hid (∀ w', Below w.heap.size w w' → Calls Tryd.prog 10 #[.int .i64 fm, .int .i64 enc, wV hi0 lo0] w' fun r w'' => ∃ u, r = .returned (.tuple #[.agg #[.int .i64 F, .int .i64 CL, .bool NG, u, .int .i64 EX], .bool CB, .int .i64 er]) ∧ Kd.R (Kd.int .u32) 46 w'' w'.heap.size (fun _ => True) u L ∧ Below w'.heap.size w' w'')) :
    Calls Tryd.prog 4 #[dV f cl ng A n c ex, .int .i64 fm, .int .i64 enc, wV hi0 lo0] w fun r w' => r = .returned (.bool true) ∧ Below w.heap.size w w' := by
  have HC := Lib.hid hA
  clear hA
  skip
  go_enter Tryd.func4, Tryd.ntmps4
  go_wp2_with (first | fail | (go_at_call 5; (with_reducible refine (HAw.out _ bel).mono ?_); rintro r w1 ⟨rfl, b1⟩; obtain ⟨hc1, hf1⟩ := bcell b1; have hz1 := below_size b1; (try simp at hz1); have zz1_0 : w.heap.size < w1.heap.size := (by omega); have zz1_1 : w.heap.size + 1 < w1.heap.size := (by omega)))
  go_loopw [10] (fun v10 wr => ∃ k : Nat, 1 ≤ k ∧ k ≤ 3 ∧ v10 = .int .i64 (k : Nat) ∧ BlkIs wr w.heap.size 34 (· = #[.int .i64 f, .int .i64 cl, .bool ng, .slice A n c, .int .i64 ex]) ∧ BlkIs wr (w.heap.size + 1) 37 (· = #[.int .u64 hi0, .int .u64 lo0]) ∧ Below w.heap.size w wr) (fun v10 _ => 4 - (intOf v10).toNat)
  case atStart => exact ⟨1, by omega, by omega, rfl, blk0, blk0, bel⟩
  case round =>
    obtain ⟨k, hk1, hk2, rfl, HB4, HB7, hbw⟩ := hrel
    obtain ⟨cs4, hbk4, rfl⟩ := HB4
    obtain ⟨cs7, hbk7, rfl⟩ := HB7
    have f_0 : wr.cell? ⟨w.heap.size, 0, none⟩ = some (.int .i64 f) := by simpa using blk_cell hbk4 0
    have f_1 : wr.cell? ⟨w.heap.size, 1, none⟩ = some (.int .i64 cl) := by simpa using blk_cell hbk4 1
    have f_2 : wr.cell? ⟨w.heap.size, 2, none⟩ = some (.bool ng) := by simpa using blk_cell hbk4 2
    have f_3 : wr.cell? ⟨w.heap.size, 3, none⟩ = some (.slice A n c) := by simpa using blk_cell hbk4 3
    have f_4 : wr.cell? ⟨w.heap.size, 4, none⟩ = some (.int .i64 ex) := by simpa using blk_cell hbk4 4
    have f_z : w.heap.size < wr.heap.size := blk_lt hbk4
    have d_0 : wr.cell? ⟨(w.heap.size + 1), 0, none⟩ = some (.int .u64 hi0) := by simpa using blk_cell hbk7 0
    have d_1 : wr.cell? ⟨(w.heap.size + 1), 1, none⟩ = some (.int .u64 lo0) := by simpa using blk_cell hbk7 1
    have d_z : (w.heap.size + 1) < wr.heap.size := blk_lt hbk7
    by_cases hlt : k ≤ 2
    · have d1 : decide ((k : Int) ≤ 2) = true := decide_eq_true (by omega)
      go_wp2_with (first | fail | (go_at_call 9; (with_reducible refine (HEn.out _ _ (by omega) (by omega) bel (Kd.C_below HC.out bel)).mono ?_); rintro r w2 ⟨hi2, lo2, rfl, hw2, b2⟩; obtain ⟨hc2, hf2⟩ := bcell b2; have hz2 := below_size b2; (try simp at hz2); have zz2_0 : w.heap.size < w2.heap.size := (by omega); have zz2_1 : w.heap.size + 1 < w2.heap.size := (by omega)) | (go_at_call 10; (with_reducible refine (HDe.out _ _ _ _ (by omega) (by omega) bel hw2).mono ?_); rintro r w3 ⟨u3, rfl, hv3, b3⟩; obtain ⟨A3, c3, rfl⟩ := Kd.R_slice hv3; have HV3 := Lib.hid (R_C hv3); clear hv3; obtain ⟨hc3, hf3⟩ := bcell b3; have hz3 := below_size b3; (try simp at hz3); have zz3_0 : w.heap.size < w3.heap.size := (by omega); have zz3_1 : w.heap.size + 1 < w3.heap.size := (by omega); (try have yy_w2_w3_0 : w2.heap.size < w3.heap.size := (by omega)); (try have yy_w2_w3_1 : w2.heap.size < w3.heap.size + 1 := (by omega)); (try have yy_w2_w3_2 : w2.heap.size < w3.heap.size + 1 + 1 := (by omega)); (try have yy_w2_w3_3 : w2.heap.size < w3.heap.size + 1 + 1 + 1 := (by omega))) | (go_at_call 11; (with_reducible refine (HEq.out _ _ _ _ (Kd.C_below HV3.out.1 bel) HV3.out.2 (Kd.C_below HC.out bel)).mono ?_); rintro r w4 ⟨rfl, b4⟩; obtain ⟨hc4, hf4⟩ := bcell b4; have hz4 := below_size b4; (try simp at hz4); have zz4_0 : w.heap.size < w4.heap.size := (by omega); have zz4_1 : w.heap.size + 1 < w4.heap.size := (by omega); (try have yy_w2_w4_0 : w2.heap.size < w4.heap.size := (by omega)); (try have yy_w2_w4_1 : w2.heap.size < w4.heap.size + 1 := (by omega)); (try have yy_w2_w4_2 : w2.heap.size < w4.heap.size + 1 + 1 := (by omega)); (try have yy_w2_w4_3 : w2.heap.size < w4.heap.size + 1 + 1 + 1 := (by omega)); (try have yy_w3_w4_0 : w3.heap.size < w4.heap.size := (by omega)); (try have yy_w3_w4_1 : w3.heap.size < w4.heap.size + 1 := (by omega)); (try have yy_w3_w4_2 : w3.heap.size < w4.heap.size + 1 + 1 := (by omega)); (try have yy_w3_w4_3 : w3.heap.size < w4.heap.size + 1 + 1 + 1 := (by omega))))
      refine ⟨⟨k + 1, by omega, by omega, by first | rfl | (simp; done), blk1, blk1, bel⟩, ?measure⟩
      case measure => simp [intOf]; omega
    · have d1 : decide ((k : Int) ≤ 2) = false := decide_eq_false (by omega)
      go_wp2_with (first | fail | (go_at_call 10; (with_reducible refine (HDr.out _ bel).mono ?_); rintro r w20 ⟨u20, rfl, hv20, b20⟩; obtain ⟨A20, c20, rfl⟩ := Kd.R_slice hv20; have HV20 := Lib.hid (R_C hv20); clear hv20; obtain ⟨hc20, hf20⟩ := bcell b20; have hz20 := below_size b20; (try simp at hz20); have zz20_0 : w.heap.size < w20.heap.size := (by omega); have zz20_1 : w.heap.size + 1 < w20.heap.size := (by omega); (try have yy_wr_w20_0 : wr.heap.size < w20.heap.size := (by omega)); (try have yy_wr_w20_1 : wr.heap.size < w20.heap.size + 1 := (by omega)); (try have yy_wr_w20_2 : wr.heap.size < w20.heap.size + 1 + 1 := (by omega)); (try have yy_wr_w20_3 : wr.heap.size < w20.heap.size + 1 + 1 + 1 := (by omega))))
      all_goals
        go_ret
        exact ⟨rfl, bel⟩
set_option maxHeartbeats 16000000 in
theorem back_tf {f cl ex fm enc hi0 lo0 F CL EX er : Int} {ng NG CB : Bool} {A : Option Addr} {n c M M2 : Nat} {l L : List Int} {X : Nat → Nat} (w : World)
    (hA : Kd.C (Kd.int .u32) w A n l) (hc : n ≤ c)
    (HAw : Hid (∀ w', Below w.heap.size w w' → Calls Tryd.prog 5 #[] w' fun r w'' => r = .returned (.bool true) ∧ Below w'.heap.size w' w''))
    (HEn : Hid (∀ (k : Nat) w', 1 ≤ k → k ≤ 2 → Below w.heap.size w w' → Kd.C (Kd.int .u32) w' A n l → Calls Tryd.prog 9 #[dV f cl ng A n c ex, .int .i64 (k : Nat)] w' (EncP (X k) w')))
    (HDe : Hid (∀ (k : Nat) hi lo w', 1 ≤ k → k ≤ 2 → Below w.heap.size w w' → Hid (Wd (X k) hi lo) → Calls Tryd.prog 10 #[.int .i64 f, .int .i64 (k : Nat), wV hi lo] w' fun r w'' => ∃ u, r = .returned (.tuple #[.agg #[.int .i64 f, .int .i64 cl, .bool ng, u, .int .i64 ex], .bool true, .int .i64 0]) ∧ Kd.R (Kd.int .u32) 46 w'' w'.heap.size (fun _ => True) u l ∧ Below w'.heap.size w' w''))
    (HEq : Hid (∀ A' n' c' w', Kd.C (Kd.int .u32) w' A' n' l → n' ≤ c' → Kd.C (Kd.int .u32) w' A n l → Calls Tryd.prog 11 #[dV f cl ng A' n' c' ex, dV f cl ng A n c ex] w' fun r w'' => r = .returned (.bool true) ∧ Below w'.heap.size w' w''))
    (HDr : Hid (∀ w', Below w.heap.size w w' → Calls Tryd.prog 10 #[.int .i64 fm, .int .i64 enc, wV hi0 lo0] w' fun r w'' => ∃ u, r = .returned (.tuple #[.agg #[.int .i64 F, .int .i64 CL, .bool NG, u, .int .i64 EX], .bool CB, .int .i64 0]) ∧ Kd.R (Kd.int .u32) 46 w'' w'.heap.size (fun _ => True) u L ∧ Below w'.heap.size w' w''))
    (HEr : Hid (∀ A n c w', Below w.heap.size w w' → Kd.C (Kd.int .u32) w' A n L → n ≤ c → Calls Tryd.prog 9 #[.agg #[.int .i64 F, .int .i64 CL, .bool NG, .slice A n c, .int .i64 EX], .int .i64 enc] w' (EncP M w')))
    (HR1 : Hid (∀ w', Below w.heap.size w w' → Calls Tryd.prog 12 #[.int .i64 fm, .int .i64 enc, .int .i64 (3 - enc), wV hi0 lo0] w' (EncP M2 w')))
    (HR2 : Hid (∀ hi lo w', Below w.heap.size w w' → Hid (Wd M2 hi lo) → Calls Tryd.prog 12 #[.int .i64 fm, .int .i64 (3 - enc), .int .i64 enc, wV hi lo] w' (EncP M w')))
    (HR3 : Hid (∀ w', Below w.heap.size w w' → Calls Tryd.prog 12 #[.int .i64 fm, .int .i64 enc, .int .i64 enc, wV hi0 lo0] w' (EncP M w')))
    (HCk : Hid (∀ A n c w', Below w.heap.size w w' → Kd.C (Kd.int .u32) w' A n L → n ≤ c → Calls Tryd.prog 13 #[.agg #[.int .i64 F, .int .i64 CL, .bool NG, .slice A n c, .int .i64 EX]] w' fun r w'' => r = .returned (.int .i64 0) ∧ Below w'.heap.size w' w''))
    (HCB : Hid (∀ hi lo, Hid (Wd M hi lo) → (hi == hi0 && (lo == lo0)) = CB)) (he : 1 ≤ enc ∧ enc ≤ 2) :
    Calls Tryd.prog 4 #[dV f cl ng A n c ex, .int .i64 fm, .int .i64 enc, wV hi0 lo0] w fun r w' => r = .returned (.bool true) ∧ Below w.heap.size w w' := by
  have HC := Lib.hid hA
  clear hA
  have eo : IntKind.i64.wrap (3 - enc) = 3 - enc := by rw [IntKind.wrap_i64]; omega
  go_enter Tryd.func4, Tryd.ntmps4
  go_wp2_with (first | fail | (go_at_call 5; (with_reducible refine (HAw.out _ bel).mono ?_); rintro r w1 ⟨rfl, b1⟩; obtain ⟨hc1, hf1⟩ := bcell b1; have hz1 := below_size b1; (try simp at hz1); have zz1_0 : w.heap.size < w1.heap.size := (by omega); have zz1_1 : w.heap.size + 1 < w1.heap.size := (by omega)))
  go_loopw [10] (fun v10 wr => ∃ k : Nat, 1 ≤ k ∧ k ≤ 3 ∧ v10 = .int .i64 (k : Nat) ∧ BlkIs wr w.heap.size 34 (· = #[.int .i64 f, .int .i64 cl, .bool ng, .slice A n c, .int .i64 ex]) ∧ BlkIs wr (w.heap.size + 1) 37 (· = #[.int .u64 hi0, .int .u64 lo0]) ∧ Below w.heap.size w wr) (fun v10 _ => 4 - (intOf v10).toNat)
  case atStart => exact ⟨1, by omega, by omega, rfl, blk0, blk0, bel⟩
  case round =>
    obtain ⟨k, hk1, hk2, rfl, HB4, HB7, hbw⟩ := hrel
    obtain ⟨cs4, hbk4, rfl⟩ := HB4
    obtain ⟨cs7, hbk7, rfl⟩ := HB7
    have f_0 : wr.cell? ⟨w.heap.size, 0, none⟩ = some (.int .i64 f) := by simpa using blk_cell hbk4 0
    have f_1 : wr.cell? ⟨w.heap.size, 1, none⟩ = some (.int .i64 cl) := by simpa using blk_cell hbk4 1
    have f_2 : wr.cell? ⟨w.heap.size, 2, none⟩ = some (.bool ng) := by simpa using blk_cell hbk4 2
    have f_3 : wr.cell? ⟨w.heap.size, 3, none⟩ = some (.slice A n c) := by simpa using blk_cell hbk4 3
    have f_4 : wr.cell? ⟨w.heap.size, 4, none⟩ = some (.int .i64 ex) := by simpa using blk_cell hbk4 4
    have f_z : w.heap.size < wr.heap.size := blk_lt hbk4
    have d_0 : wr.cell? ⟨(w.heap.size + 1), 0, none⟩ = some (.int .u64 hi0) := by simpa using blk_cell hbk7 0
    have d_1 : wr.cell? ⟨(w.heap.size + 1), 1, none⟩ = some (.int .u64 lo0) := by simpa using blk_cell hbk7 1
    have d_z : (w.heap.size + 1) < wr.heap.size := blk_lt hbk7
    by_cases hlt : k ≤ 2
    · have d1 : decide ((k : Int) ≤ 2) = true := decide_eq_true (by omega)
      go_wp2_with (first | fail | (go_at_call 9; (with_reducible refine (HEn.out _ _ (by omega) (by omega) bel (Kd.C_below HC.out bel)).mono ?_); rintro r w2 ⟨hi2, lo2, rfl, hw2, b2⟩; obtain ⟨hc2, hf2⟩ := bcell b2; have hz2 := below_size b2; (try simp at hz2); have zz2_0 : w.heap.size < w2.heap.size := (by omega); have zz2_1 : w.heap.size + 1 < w2.heap.size := (by omega)) | (go_at_call 10; (with_reducible refine (HDe.out _ _ _ _ (by omega) (by omega) bel hw2).mono ?_); rintro r w3 ⟨u3, rfl, hv3, b3⟩; obtain ⟨A3, c3, rfl⟩ := Kd.R_slice hv3; have HV3 := Lib.hid (R_C hv3); clear hv3; obtain ⟨hc3, hf3⟩ := bcell b3; have hz3 := below_size b3; (try simp at hz3); have zz3_0 : w.heap.size < w3.heap.size := (by omega); have zz3_1 : w.heap.size + 1 < w3.heap.size := (by omega); (try have yy_w2_w3_0 : w2.heap.size < w3.heap.size := (by omega)); (try have yy_w2_w3_1 : w2.heap.size < w3.heap.size + 1 := (by omega)); (try have yy_w2_w3_2 : w2.heap.size < w3.heap.size + 1 + 1 := (by omega)); (try have yy_w2_w3_3 : w2.heap.size < w3.heap.size + 1 + 1 + 1 := (by omega))) | (go_at_call 11; (with_reducible refine (HEq.out _ _ _ _ (Kd.C_below HV3.out.1 bel) HV3.out.2 (Kd.C_below HC.out bel)).mono ?_); rintro r w4 ⟨rfl, b4⟩; obtain ⟨hc4, hf4⟩ := bcell b4; have hz4 := below_size b4; (try simp at hz4); have zz4_0 : w.heap.size < w4.heap.size := (by omega); have zz4_1 : w.heap.size + 1 < w4.heap.size := (by omega); (try have yy_w2_w4_0 : w2.heap.size < w4.heap.size := (by omega)); (try have yy_w2_w4_1 : w2.heap.size < w4.heap.size + 1 := (by omega)); (try have yy_w2_w4_2 : w2.heap.size < w4.heap.size + 1 + 1 := (by omega)); (try have yy_w2_w4_3 : w2.heap.size < w4.heap.size + 1 + 1 + 1 := (by omega)); (try have yy_w3_w4_0 : w3.heap.size < w4.heap.size := (by omega)); (try have yy_w3_w4_1 : w3.heap.size < w4.heap.size + 1 := (by omega)); (try have yy_w3_w4_2 : w3.heap.size < w4.heap.size + 1 + 1 := (by omega)); (try have yy_w3_w4_3 : w3.heap.size < w4.heap.size + 1 + 1 + 1 := (by omega))))
      refine ⟨⟨k + 1, by omega, by omega, by first | rfl | (simp; done), blk1, blk1, bel⟩, ?measure⟩
      case measure => simp [intOf]; omega
    · have d1 : decide ((k : Int) ≤ 2) = false := decide_eq_false (by omega)
      go_wp2_with (first | fail | (go_at_call 10; (with_reducible refine (HDr.out _ bel).mono ?_); rintro r w20 ⟨u20, rfl, hv20, b20⟩; obtain ⟨A20, c20, rfl⟩ := Kd.R_slice hv20; have HV20 := Lib.hid (R_C hv20); clear hv20; obtain ⟨hc20, hf20⟩ := bcell b20; have hz20 := below_size b20; (try simp at hz20); have zz20_0 : w.heap.size < w20.heap.size := (by omega); have zz20_1 : w.heap.size + 1 < w20.heap.size := (by omega); (try have yy_wr_w20_0 : wr.heap.size < w20.heap.size := (by omega)); (try have yy_wr_w20_1 : wr.heap.size < w20.heap.size + 1 := (by omega)); (try have yy_wr_w20_2 : wr.heap.size < w20.heap.size + 1 + 1 := (by omega)); (try have yy_wr_w20_3 : wr.heap.size < w20.heap.size + 1 + 1 + 1 := (by omega))) | (go_at_call 9; (with_reducible refine (HEr.out _ _ _ _ bel (Kd.C_below HV20.out.1 bel) HV20.out.2).mono ?_); rintro r w21 ⟨hi21, lo21, rfl, hw21, b21⟩; have hEqS := (fun d w => (eqRw d w hi21 hi0 lo21 lo0).trans (by rw [HCB.out _ _ hw21])); have hEqT := (fun d w => (eqRw d w hi21 hi21 lo21 lo21).trans (by rw [beq_self_eq_true, beq_self_eq_true, Bool.and_self])); obtain ⟨hc21, hf21⟩ := bcell b21; have hz21 := below_size b21; (try simp at hz21); have zz21_0 : w.heap.size < w21.heap.size := (by omega); have zz21_1 : w.heap.size + 1 < w21.heap.size := (by omega); (try have yy_wr_w21_0 : wr.heap.size < w21.heap.size := (by omega)); (try have yy_wr_w21_1 : wr.heap.size < w21.heap.size + 1 := (by omega)); (try have yy_wr_w21_2 : wr.heap.size < w21.heap.size + 1 + 1 := (by omega)); (try have yy_wr_w21_3 : wr.heap.size < w21.heap.size + 1 + 1 + 1 := (by omega)); (try have yy_w20_w21_0 : w20.heap.size < w21.heap.size := (by omega)); (try have yy_w20_w21_1 : w20.heap.size < w21.heap.size + 1 := (by omega)); (try have yy_w20_w21_2 : w20.heap.size < w21.heap.size + 1 + 1 := (by omega)); (try have yy_w20_w21_3 : w20.heap.size < w21.heap.size + 1 + 1 + 1 := (by omega))) | ((try rw [eo]); (with_reducible refine (HR1.out _ bel).mono ?_); rintro r w22 ⟨hi22, lo22, rfl, hw22, b22⟩; obtain ⟨hc22, hf22⟩ := bcell b22; have hz22 := below_size b22; (try simp at hz22); have zz22_0 : w.heap.size < w22.heap.size := (by omega); have zz22_1 : w.heap.size + 1 < w22.heap.size := (by omega); (try have yy_wr_w22_0 : wr.heap.size < w22.heap.size := (by omega)); (try have yy_wr_w22_1 : wr.heap.size < w22.heap.size + 1 := (by omega)); (try have yy_wr_w22_2 : wr.heap.size < w22.heap.size + 1 + 1 := (by omega)); (try have yy_wr_w22_3 : wr.heap.size < w22.heap.size + 1 + 1 + 1 := (by omega)); (try have yy_w20_w22_0 : w20.heap.size < w22.heap.size := (by omega)); (try have yy_w20_w22_1 : w20.heap.size < w22.heap.size + 1 := (by omega)); (try have yy_w20_w22_2 : w20.heap.size < w22.heap.size + 1 + 1 := (by omega)); (try have yy_w20_w22_3 : w20.heap.size < w22.heap.size + 1 + 1 + 1 := (by omega)); (try have yy_w21_w22_0 : w21.heap.size < w22.heap.size := (by omega)); (try have yy_w21_w22_1 : w21.heap.size < w22.heap.size + 1 := (by omega)); (try have yy_w21_w22_2 : w21.heap.size < w22.heap.size + 1 + 1 := (by omega)); (try have yy_w21_w22_3 : w21.heap.size < w22.heap.size + 1 + 1 + 1 := (by omega))) | ((with_reducible refine (HR2.out _ _ _ bel hw22).mono ?_); rintro r w23 ⟨hi23, lo23, rfl, hw23, b23⟩; obtain ⟨rfl, rfl⟩ := wd_eq hw21.out hw23.out; obtain ⟨hc23, hf23⟩ := bcell b23; have hz23 := below_size b23; (try simp at hz23); have zz23_0 : w.heap.size < w23.heap.size := (by omega); have zz23_1 : w.heap.size + 1 < w23.heap.size := (by omega); (try have yy_wr_w23_0 : wr.heap.size < w23.heap.size := (by omega)); (try have yy_wr_w23_1 : wr.heap.size < w23.heap.size + 1 := (by omega)); (try have yy_wr_w23_2 : wr.heap.size < w23.heap.size + 1 + 1 := (by omega)); (try have yy_wr_w23_3 : wr.heap.size < w23.heap.size + 1 + 1 + 1 := (by omega)); (try have yy_w20_w23_0 : w20.heap.size < w23.heap.size := (by omega)); (try have yy_w20_w23_1 : w20.heap.size < w23.heap.size + 1 := (by omega)); (try have yy_w20_w23_2 : w20.heap.size < w23.heap.size + 1 + 1 := (by omega)); (try have yy_w20_w23_3 : w20.heap.size < w23.heap.size + 1 + 1 + 1 := (by omega)); (try have yy_w21_w23_0 : w21.heap.size < w23.heap.size := (by omega)); (try have yy_w21_w23_1 : w21.heap.size < w23.heap.size + 1 := (by omega)); (try have yy_w21_w23_2 : w21.heap.size < w23.heap.size + 1 + 1 := (by omega)); (try have yy_w21_w23_3 : w21.heap.size < w23.heap.size + 1 + 1 + 1 := (by omega)); (try have yy_w22_w23_0 : w22.heap.size < w23.heap.size := (by omega)); (try have yy_w22_w23_1 : w22.heap.size < w23.heap.size + 1 := (by omega)); (try have yy_w22_w23_2 : w22.heap.size < w23.heap.size + 1 + 1 := (by omega)); (try have yy_w22_w23_3 : w22.heap.size < w23.heap.size + 1 + 1 + 1 := (by omega))) | ((with_reducible refine (HR3.out _ bel).mono ?_); rintro r w24 ⟨hi24, lo24, rfl, hw24, b24⟩; obtain ⟨rfl, rfl⟩ := wd_eq hw21.out hw24.out; obtain ⟨hc24, hf24⟩ := bcell b24; have hz24 := below_size b24; (try simp at hz24); have zz24_0 : w.heap.size < w24.heap.size := (by omega); have zz24_1 : w.heap.size + 1 < w24.heap.size := (by omega); (try have yy_wr_w24_0 : wr.heap.size < w24.heap.size := (by omega)); (try have yy_wr_w24_1 : wr.heap.size < w24.heap.size + 1 := (by omega)); (try have yy_wr_w24_2 : wr.heap.size < w24.heap.size + 1 + 1 := (by omega)); (try have yy_wr_w24_3 : wr.heap.size < w24.heap.size + 1 + 1 + 1 := (by omega)); (try have yy_w20_w24_0 : w20.heap.size < w24.heap.size := (by omega)); (try have yy_w20_w24_1 : w20.heap.size < w24.heap.size + 1 := (by omega)); (try have yy_w20_w24_2 : w20.heap.size < w24.heap.size + 1 + 1 := (by omega)); (try have yy_w20_w24_3 : w20.heap.size < w24.heap.size + 1 + 1 + 1 := (by omega)); (try have yy_w21_w24_0 : w21.heap.size < w24.heap.size := (by omega)); (try have yy_w21_w24_1 : w21.heap.size < w24.heap.size + 1 := (by omega)); (try have yy_w21_w24_2 : w21.heap.size < w24.heap.size + 1 + 1 := (by omega)); (try have yy_w21_w24_3 : w21.heap.size < w24.heap.size + 1 + 1 + 1 := (by omega)); (try have yy_w22_w24_0 : w22.heap.size < w24.heap.size := (by omega)); (try have yy_w22_w24_1 : w22.heap.size < w24.heap.size + 1 := (by omega)); (try have yy_w22_w24_2 : w22.heap.size < w24.heap.size + 1 + 1 := (by omega)); (try have yy_w22_w24_3 : w22.heap.size < w24.heap.size + 1 + 1 + 1 := (by omega)); (try have yy_w23_w24_0 : w23.heap.size < w24.heap.size := (by omega)); (try have yy_w23_w24_1 : w23.heap.size < w24.heap.size + 1 := (by omega)); (try have yy_w23_w24_2 : w23.heap.size < w24.heap.size + 1 + 1 := (by omega)); (try have yy_w23_w24_3 : w23.heap.size < w24.heap.size + 1 + 1 + 1 := (by omega))) | (go_at_call 13; (with_reducible refine (HCk.out _ _ _ _ bel (Kd.C_below HV20.out.1 bel) HV20.out.2).mono ?_); rintro r w25 ⟨rfl, b25⟩; obtain ⟨hc25, hf25⟩ := bcell b25; have hz25 := below_size b25; (try simp at hz25); have zz25_0 : w.heap.size < w25.heap.size := (by omega); have zz25_1 : w.heap.size + 1 < w25.heap.size := (by omega); (try have yy_wr_w25_0 : wr.heap.size < w25.heap.size := (by omega)); (try have yy_wr_w25_1 : wr.heap.size < w25.heap.size + 1 := (by omega)); (try have yy_wr_w25_2 : wr.heap.size < w25.heap.size + 1 + 1 := (by omega)); (try have yy_wr_w25_3 : wr.heap.size < w25.heap.size + 1 + 1 + 1 := (by omega)); (try have yy_w20_w25_0 : w20.heap.size < w25.heap.size := (by omega)); (try have yy_w20_w25_1 : w20.heap.size < w25.heap.size + 1 := (by omega)); (try have yy_w20_w25_2 : w20.heap.size < w25.heap.size + 1 + 1 := (by omega)); (try have yy_w20_w25_3 : w20.heap.size < w25.heap.size + 1 + 1 + 1 := (by omega)); (try have yy_w21_w25_0 : w21.heap.size < w25.heap.size := (by omega)); (try have yy_w21_w25_1 : w21.heap.size < w25.heap.size + 1 := (by omega)); (try have yy_w21_w25_2 : w21.heap.size < w25.heap.size + 1 + 1 := (by omega)); (try have yy_w21_w25_3 : w21.heap.size < w25.heap.size + 1 + 1 + 1 := (by omega)); (try have yy_w22_w25_0 : w22.heap.size < w25.heap.size := (by omega)); (try have yy_w22_w25_1 : w22.heap.size < w25.heap.size + 1 := (by omega)); (try have yy_w22_w25_2 : w22.heap.size < w25.heap.size + 1 + 1 := (by omega)); (try have yy_w22_w25_3 : w22.heap.size < w25.heap.size + 1 + 1 + 1 := (by omega)); (try have yy_w23_w25_0 : w23.heap.size < w25.heap.size := (by omega)); (try have yy_w23_w25_1 : w23.heap.size < w25.heap.size + 1 := (by omega)); (try have yy_w23_w25_2 : w23.heap.size < w25.heap.size + 1 + 1 := (by omega)); (try have yy_w23_w25_3 : w23.heap.size < w25.heap.size + 1 + 1 + 1 := (by omega)); (try have yy_w24_w25_0 : w24.heap.size < w25.heap.size := (by omega)); (try have yy_w24_w25_1 : w24.heap.size < w25.heap.size + 1 := (by omega)); (try have yy_w24_w25_2 : w24.heap.size < w25.heap.size + 1 + 1 := (by omega)); (try have yy_w24_w25_3 : w24.heap.size < w25.heap.size + 1 + 1 + 1 := (by omega))))
      all_goals
        go_ret
        exact ⟨rfl, bel⟩
set_option maxHeartbeats 16000000 in
theorem back_ft {f cl ex fm enc hi0 lo0 F CL EX er : Int} {ng NG CB : Bool} {A : Option Addr} {n c M M2 : Nat} {l L : List Int} {X : Nat → Nat} (w : World)
    (hA : Kd.C (Kd.int .u32) w A n l) (hc : n ≤ c)
    (HAw : Hid (∀ w', Below w.heap.size w w' → Calls Tryd.prog 5 #[] w' fun r w'' => r = .returned (.bool true) ∧ Below w'.heap.size w' w''))
    (HEn : Hid (∀ w', Below w.heap.size w w' → Calls Tryd.prog 9 #[dV f cl ng A n c ex, .int .i64 1] w' fun r w'' => r = .returned (.tuple #[wV 0 0, .int .i64 1]) ∧ Below w'.heap.size w' w''))
    (her : (er != 0) = true)
    (HDr : Hid (∀ w', Below w.heap.size w w' → Calls Tryd.prog 10 #[.int .i64 fm, .int .i64 enc, wV hi0 lo0] w' fun r w'' => ∃ u, r = .returned (.tuple #[.agg #[.int .i64 F, .int .i64 CL, .bool NG, u, .int .i64 EX], .bool CB, .int .i64 er]) ∧ Kd.R (Kd.int .u32) 46 w'' w'.heap.size (fun _ => True) u L ∧ Below w'.heap.size w' w'')) :
    Calls Tryd.prog 4 #[dV f cl ng A n c ex, .int .i64 fm, .int .i64 enc, wV hi0 lo0] w fun r w' => r = .returned (.bool true) ∧ Below w.heap.size w w' := by
  have HC := Lib.hid hA
  clear hA
  skip
  go_enter Tryd.func4, Tryd.ntmps4
  go_wp2_with (first | fail | (go_at_call 5; (with_reducible refine (HAw.out _ bel).mono ?_); rintro r w1 ⟨rfl, b1⟩; obtain ⟨hc1, hf1⟩ := bcell b1; have hz1 := below_size b1; (try simp at hz1); have zz1_0 : w.heap.size < w1.heap.size := (by omega); have zz1_1 : w.heap.size + 1 < w1.heap.size := (by omega)))
  go_loopw [10] (fun v10 wr => ∃ k : Nat, 1 ≤ k ∧ k ≤ 1 ∧ v10 = .int .i64 (k : Nat) ∧ BlkIs wr w.heap.size 34 (· = #[.int .i64 f, .int .i64 cl, .bool ng, .slice A n c, .int .i64 ex]) ∧ BlkIs wr (w.heap.size + 1) 37 (· = #[.int .u64 hi0, .int .u64 lo0]) ∧ Below w.heap.size w wr) (fun v10 _ => 4 - (intOf v10).toNat)
  case atStart => exact ⟨1, by omega, by omega, rfl, blk0, blk0, bel⟩
  case round =>
    obtain ⟨k, hk1, hk2, rfl, HB4, HB7, hbw⟩ := hrel
    obtain ⟨cs4, hbk4, rfl⟩ := HB4
    obtain ⟨cs7, hbk7, rfl⟩ := HB7
    have f_0 : wr.cell? ⟨w.heap.size, 0, none⟩ = some (.int .i64 f) := by simpa using blk_cell hbk4 0
    have f_1 : wr.cell? ⟨w.heap.size, 1, none⟩ = some (.int .i64 cl) := by simpa using blk_cell hbk4 1
    have f_2 : wr.cell? ⟨w.heap.size, 2, none⟩ = some (.bool ng) := by simpa using blk_cell hbk4 2
    have f_3 : wr.cell? ⟨w.heap.size, 3, none⟩ = some (.slice A n c) := by simpa using blk_cell hbk4 3
    have f_4 : wr.cell? ⟨w.heap.size, 4, none⟩ = some (.int .i64 ex) := by simpa using blk_cell hbk4 4
    have f_z : w.heap.size < wr.heap.size := blk_lt hbk4
    have d_0 : wr.cell? ⟨(w.heap.size + 1), 0, none⟩ = some (.int .u64 hi0) := by simpa using blk_cell hbk7 0
    have d_1 : wr.cell? ⟨(w.heap.size + 1), 1, none⟩ = some (.int .u64 lo0) := by simpa using blk_cell hbk7 1
    have d_z : (w.heap.size + 1) < wr.heap.size := blk_lt hbk7
    obtain rfl : k = 1 := by omega
    go_wp2_with (first | fail | (go_at_call 9; (with_reducible refine (HEn.out _ bel).mono ?_); rintro r w2 ⟨rfl, b2⟩; obtain ⟨hc2, hf2⟩ := bcell b2; have hz2 := below_size b2; (try simp at hz2); have zz2_0 : w.heap.size < w2.heap.size := (by omega); have zz2_1 : w.heap.size + 1 < w2.heap.size := (by omega)))
    all_goals
      go_wp2_with (first | fail | (go_at_call 10; (with_reducible refine (HDr.out _ bel).mono ?_); rintro r w20 ⟨u20, rfl, hv20, b20⟩; obtain ⟨A20, c20, rfl⟩ := Kd.R_slice hv20; have HV20 := Lib.hid (R_C hv20); clear hv20; obtain ⟨hc20, hf20⟩ := bcell b20; have hz20 := below_size b20; (try simp at hz20); have zz20_0 : w.heap.size < w20.heap.size := (by omega); have zz20_1 : w.heap.size + 1 < w20.heap.size := (by omega); (try have yy_wr_w20_0 : wr.heap.size < w20.heap.size := (by omega)); (try have yy_wr_w20_1 : wr.heap.size < w20.heap.size + 1 := (by omega)); (try have yy_wr_w20_2 : wr.heap.size < w20.heap.size + 1 + 1 := (by omega)); (try have yy_wr_w20_3 : wr.heap.size < w20.heap.size + 1 + 1 + 1 := (by omega)); (try have yy_w2_w20_0 : w2.heap.size < w20.heap.size := (by omega)); (try have yy_w2_w20_1 : w2.heap.size < w20.heap.size + 1 := (by omega)); (try have yy_w2_w20_2 : w2.heap.size < w20.heap.size + 1 + 1 := (by omega)); (try have yy_w2_w20_3 : w2.heap.size < w20.heap.size + 1 + 1 + 1 := (by omega))))
      all_goals
        go_ret
        exact ⟨rfl, bel⟩
set_option maxHeartbeats 16000000 in
theorem back_ff {f cl ex fm enc hi0 lo0 F CL EX er : Int} {ng NG CB : Bool} {A : Option Addr} {n c M M2 : Nat} {l L : List Int} {X : Nat → Nat} (w : World)
    (hA : Kd.C (Kd.int .u32) w A n l) (hc : n ≤ c)
    (HAw : Hid (∀ w', Below w.heap.size w w' → Calls Tryd.prog 5 #[] w' fun r w'' => r = .returned (.bool true) ∧ Below w'.heap.size w' w''))
    (HEn : Hid (∀ w', Below w.heap.size w w' → Calls Tryd.prog 9 #[dV f cl ng A n c ex, .int .i64 1] w' fun r w'' => r = .returned (.tuple #[wV 0 0, .int .i64 1]) ∧ Below w'.heap.size w' w''))
    (HDr : Hid (∀ w', Below w.heap.size w w' → Calls Tryd.prog 10 #[.int .i64 fm, .int .i64 enc, wV hi0 lo0] w' fun r w'' => ∃ u, r = .returned (.tuple #[.agg #[.int .i64 F, .int .i64 CL, .bool NG, u, .int .i64 EX], .bool CB, .int .i64 0]) ∧ Kd.R (Kd.int .u32) 46 w'' w'.heap.size (fun _ => True) u L ∧ Below w'.heap.size w' w''))
    (HEr : Hid (∀ A n c w', Below w.heap.size w w' → Kd.C (Kd.int .u32) w' A n L → n ≤ c → Calls Tryd.prog 9 #[.agg #[.int .i64 F, .int .i64 CL, .bool NG, .slice A n c, .int .i64 EX], .int .i64 enc] w' (EncP M w')))
    (HR1 : Hid (∀ w', Below w.heap.size w w' → Calls Tryd.prog 12 #[.int .i64 fm, .int .i64 enc, .int .i64 (3 - enc), wV hi0 lo0] w' (EncP M2 w')))
    (HR2 : Hid (∀ hi lo w', Below w.heap.size w w' → Hid (Wd M2 hi lo) → Calls Tryd.prog 12 #[.int .i64 fm, .int .i64 (3 - enc), .int .i64 enc, wV hi lo] w' (EncP M w')))
    (HR3 : Hid (∀ w', Below w.heap.size w w' → Calls Tryd.prog 12 #[.int .i64 fm, .int .i64 enc, .int .i64 enc, wV hi0 lo0] w' (EncP M w')))
    (HCk : Hid (∀ A n c w', Below w.heap.size w w' → Kd.C (Kd.int .u32) w' A n L → n ≤ c → Calls Tryd.prog 13 #[.agg #[.int .i64 F, .int .i64 CL, .bool NG, .slice A n c, .int .i64 EX]] w' fun r w'' => r = .returned (.int .i64 0) ∧ Below w'.heap.size w' w''))
    (HCB : Hid (∀ hi lo, Hid (Wd M hi lo) → (hi == hi0 && (lo == lo0)) = CB)) (he : 1 ≤ enc ∧ enc ≤ 2) :
    Calls Tryd.prog 4 #[dV f cl ng A n c ex, .int .i64 fm, .int .i64 enc, wV hi0 lo0] w fun r w' => r = .returned (.bool true) ∧ Below w.heap.size w w' := by
  have HC := Lib.hid hA
  clear hA
  have eo : IntKind.i64.wrap (3 - enc) = 3 - enc := by rw [IntKind.wrap_i64]; omega
  go_enter Tryd.func4, Tryd.ntmps4
  go_wp2_with (first | fail | (go_at_call 5; (with_reducible refine (HAw.out _ bel).mono ?_); rintro r w1 ⟨rfl, b1⟩; obtain ⟨hc1, hf1⟩ := bcell b1; have hz1 := below_size b1; (try simp at hz1); have zz1_0 : w.heap.size < w1.heap.size := (by omega); have zz1_1 : w.heap.size + 1 < w1.heap.size := (by omega)))
  go_loopw [10] (fun v10 wr => ∃ k : Nat, 1 ≤ k ∧ k ≤ 1 ∧ v10 = .int .i64 (k : Nat) ∧ BlkIs wr w.heap.size 34 (· = #[.int .i64 f, .int .i64 cl, .bool ng, .slice A n c, .int .i64 ex]) ∧ BlkIs wr (w.heap.size + 1) 37 (· = #[.int .u64 hi0, .int .u64 lo0]) ∧ Below w.heap.size w wr) (fun v10 _ => 4 - (intOf v10).toNat)
  case atStart => exact ⟨1, by omega, by omega, rfl, blk0, blk0, bel⟩
  case round =>
    obtain ⟨k, hk1, hk2, rfl, HB4, HB7, hbw⟩ := hrel
    obtain ⟨cs4, hbk4, rfl⟩ := HB4
    obtain ⟨cs7, hbk7, rfl⟩ := HB7
    have f_0 : wr.cell? ⟨w.heap.size, 0, none⟩ = some (.int .i64 f) := by simpa using blk_cell hbk4 0
    have f_1 : wr.cell? ⟨w.heap.size, 1, none⟩ = some (.int .i64 cl) := by simpa using blk_cell hbk4 1
    have f_2 : wr.cell? ⟨w.heap.size, 2, none⟩ = some (.bool ng) := by simpa using blk_cell hbk4 2
    have f_3 : wr.cell? ⟨w.heap.size, 3, none⟩ = some (.slice A n c) := by simpa using blk_cell hbk4 3
    have f_4 : wr.cell? ⟨w.heap.size, 4, none⟩ = some (.int .i64 ex) := by simpa using blk_cell hbk4 4
    have f_z : w.heap.size < wr.heap.size := blk_lt hbk4
    have d_0 : wr.cell? ⟨(w.heap.size + 1), 0, none⟩ = some (.int .u64 hi0) := by simpa using blk_cell hbk7 0
    have d_1 : wr.cell? ⟨(w.heap.size + 1), 1, none⟩ = some (.int .u64 lo0) := by simpa using blk_cell hbk7 1
    have d_z : (w.heap.size + 1) < wr.heap.size := blk_lt hbk7
    obtain rfl : k = 1 := by omega
    go_wp2_with (first | fail | (go_at_call 9; (with_reducible refine (HEn.out _ bel).mono ?_); rintro r w2 ⟨rfl, b2⟩; obtain ⟨hc2, hf2⟩ := bcell b2; have hz2 := below_size b2; (try simp at hz2); have zz2_0 : w.heap.size < w2.heap.size := (by omega); have zz2_1 : w.heap.size + 1 < w2.heap.size := (by omega)))
    all_goals
      go_wp2_with (first | fail | (go_at_call 10; (with_reducible refine (HDr.out _ bel).mono ?_); rintro r w20 ⟨u20, rfl, hv20, b20⟩; obtain ⟨A20, c20, rfl⟩ := Kd.R_slice hv20; have HV20 := Lib.hid (R_C hv20); clear hv20; obtain ⟨hc20, hf20⟩ := bcell b20; have hz20 := below_size b20; (try simp at hz20); have zz20_0 : w.heap.size < w20.heap.size := (by omega); have zz20_1 : w.heap.size + 1 < w20.heap.size := (by omega); (try have yy_wr_w20_0 : wr.heap.size < w20.heap.size := (by omega)); (try have yy_wr_w20_1 : wr.heap.size < w20.heap.size + 1 := (by omega)); (try have yy_wr_w20_2 : wr.heap.size < w20.heap.size + 1 + 1 := (by omega)); (try have yy_wr_w20_3 : wr.heap.size < w20.heap.size + 1 + 1 + 1 := (by omega)); (try have yy_w2_w20_0 : w2.heap.size < w20.heap.size := (by omega)); (try have yy_w2_w20_1 : w2.heap.size < w20.heap.size + 1 := (by omega)); (try have yy_w2_w20_2 : w2.heap.size < w20.heap.size + 1 + 1 := (by omega)); (try have yy_w2_w20_3 : w2.heap.size < w20.heap.size + 1 + 1 + 1 := (by omega))) | (go_at_call 9; (with_reducible refine (HEr.out _ _ _ _ bel (Kd.C_below HV20.out.1 bel) HV20.out.2).mono ?_); rintro r w21 ⟨hi21, lo21, rfl, hw21, b21⟩; have hEqS := (fun d w => (eqRw d w hi21 hi0 lo21 lo0).trans (by rw [HCB.out _ _ hw21])); have hEqT := (fun d w => (eqRw d w hi21 hi21 lo21 lo21).trans (by rw [beq_self_eq_true, beq_self_eq_true, Bool.and_self])); obtain ⟨hc21, hf21⟩ := bcell b21; have hz21 := below_size b21; (try simp at hz21); have zz21_0 : w.heap.size < w21.heap.size := (by omega); have zz21_1 : w.heap.size + 1 < w21.heap.size := (by omega); (try have yy_wr_w21_0 : wr.heap.size < w21.heap.size := (by omega)); (try have yy_wr_w21_1 : wr.heap.size < w21.heap.size + 1 := (by omega)); (try have yy_wr_w21_2 : wr.heap.size < w21.heap.size + 1 + 1 := (by omega)); (try have yy_wr_w21_3 : wr.heap.size < w21.heap.size + 1 + 1 + 1 := (by omega)); (try have yy_w2_w21_0 : w2.heap.size < w21.heap.size := (by omega)); (try have yy_w2_w21_1 : w2.heap.size < w21.heap.size + 1 := (by omega)); (try have yy_w2_w21_2 : w2.heap.size < w21.heap.size + 1 + 1 := (by omega)); (try have yy_w2_w21_3 : w2.heap.size < w21.heap.size + 1 + 1 + 1 := (by omega)); (try have yy_w20_w21_0 : w20.heap.size < w21.heap.size := (by omega)); (try have yy_w20_w21_1 : w20.heap.size < w21.heap.size + 1 := (by omega)); (try have yy_w20_w21_2 : w20.heap.size < w21.heap.size + 1 + 1 := (by omega)); (try have yy_w20_w21_3 : w20.heap.size < w21.heap.size + 1 + 1 + 1 := (by omega))) | ((try rw [eo]); (with_reducible refine (HR1.out _ bel).mono ?_); rintro r w22 ⟨hi22, lo22, rfl, hw22, b22⟩; obtain ⟨hc22, hf22⟩ := bcell b22; have hz22 := below_size b22; (try simp at hz22); have zz22_0 : w.heap.size < w22.heap.size := (by omega); have zz22_1 : w.heap.size + 1 < w22.heap.size := (by omega); (try have yy_wr_w22_0 : wr.heap.size < w22.heap.size := (by omega)); (try have yy_wr_w22_1 : wr.heap.size < w22.heap.size + 1 := (by omega)); (try have yy_wr_w22_2 : wr.heap.size < w22.heap.size + 1 + 1 := (by omega)); (try have yy_wr_w22_3 : wr.heap.size < w22.heap.size + 1 + 1 + 1 := (by omega)); (try have yy_w2_w22_0 : w2.heap.size < w22.heap.size := (by omega)); (try have yy_w2_w22_1 : w2.heap.size < w22.heap.size + 1 := (by omega)); (try have yy_w2_w22_2 : w2.heap.size < w22.heap.size + 1 + 1 := (by omega)); (try have yy_w2_w22_3 : w2.heap.size < w22.heap.size + 1 + 1 + 1 := (by omega)); (try have yy_w20_w22_0 : w20.heap.size < w22.heap.size := (by omega)); (try have yy_w20_w22_1 : w20.heap.size < w22.heap.size + 1 := (by omega)); (try have yy_w20_w22_2 : w20.heap.size < w22.heap.size + 1 + 1 := (by omega)); (try have yy_w20_w22_3 : w20.heap.size < w22.heap.size + 1 + 1 + 1 := (by omega)); (try have yy_w21_w22_0 : w21.heap.size < w22.heap.size := (by omega)); (try have yy_w21_w22_1 : w21.heap.size < w22.heap.size + 1 := (by omega)); (try have yy_w21_w22_2 : w21.heap.size < w22.heap.size + 1 + 1 := (by omega)); (try have yy_w21_w22_3 : w21.heap.size < w22.heap.size + 1 + 1 + 1 := (by omega))) | ((with_reducible refine (HR2.out _ _ _ bel hw22).mono ?_); rintro r w23 ⟨hi23, lo23, rfl, hw23, b23⟩; obtain ⟨rfl, rfl⟩ := wd_eq hw21.out hw23.out; obtain ⟨hc23, hf23⟩ := bcell b23; have hz23 := below_size b23; (try simp at hz23); have zz23_0 : w.heap.size < w23.heap.size := (by omega); have zz23_1 : w.heap.size + 1 < w23.heap.size := (by omega); (try have yy_wr_w23_0 : wr.heap.size < w23.heap.size := (by omega)); (try have yy_wr_w23_1 : wr.heap.size < w23.heap.size + 1 := (by omega)); (try have yy_wr_w23_2 : wr.heap.size < w23.heap.size + 1 + 1 := (by omega)); (try have yy_wr_w23_3 : wr.heap.size < w23.heap.size + 1 + 1 + 1 := (by omega)); (try have yy_w2_w23_0 : w2.heap.size < w23.heap.size := (by omega)); (try have yy_w2_w23_1 : w2.heap.size < w23.heap.size + 1 := (by omega)); (try have yy_w2_w23_2 : w2.heap.size < w23.heap.size + 1 + 1 := (by omega)); (try have yy_w2_w23_3 : w2.heap.size < w23.heap.size + 1 + 1 + 1 := (by omega)); (try have yy_w20_w23_0 : w20.heap.size < w23.heap.size := (by omega)); (try have yy_w20_w23_1 : w20.heap.size < w23.heap.size + 1 := (by omega)); (try have yy_w20_w23_2 : w20.heap.size < w23.heap.size + 1 + 1 := (by omega)); (try have yy_w20_w23_3 : w20.heap.size < w23.heap.size + 1 + 1 + 1 := (by omega)); (try have yy_w21_w23_0 : w21.heap.size < w23.heap.size := (by omega)); (try have yy_w21_w23_1 : w21.heap.size < w23.heap.size + 1 := (by omega)); (try have yy_w21_w23_2 : w21.heap.size < w23.heap.size + 1 + 1 := (by omega)); (try have yy_w21_w23_3 : w21.heap.size < w23.heap.size + 1 + 1 + 1 := (by omega)); (try have yy_w22_w23_0 : w22.heap.size < w23.heap.size := (by omega)); (try have yy_w22_w23_1 : w22.heap.size < w23.heap.size + 1 := (by omega)); (try have yy_w22_w23_2 : w22.heap.size < w23.heap.size + 1 + 1 := (by omega)); (try have yy_w22_w23_3 : w22.heap.size < w23.heap.size + 1 + 1 + 1 := (by omega))) | ((with_reducible refine (HR3.out _ bel).mono ?_); rintro r w24 ⟨hi24, lo24, rfl, hw24, b24⟩; obtain ⟨rfl, rfl⟩ := wd_eq hw21.out hw24.out; obtain ⟨hc24, hf24⟩ := bcell b24; have hz24 := below_size b24; (try simp at hz24); have zz24_0 : w.heap.size < w24.heap.size := (by omega); have zz24_1 : w.heap.size + 1 < w24.heap.size := (by omega); (try have yy_wr_w24_0 : wr.heap.size < w24.heap.size := (by omega)); (try have yy_wr_w24_1 : wr.heap.size < w24.heap.size + 1 := (by omega)); (try have yy_wr_w24_2 : wr.heap.size < w24.heap.size + 1 + 1 := (by omega)); (try have yy_wr_w24_3 : wr.heap.size < w24.heap.size + 1 + 1 + 1 := (by omega)); (try have yy_w2_w24_0 : w2.heap.size < w24.heap.size := (by omega)); (try have yy_w2_w24_1 : w2.heap.size < w24.heap.size + 1 := (by omega)); (try have yy_w2_w24_2 : w2.heap.size < w24.heap.size + 1 + 1 := (by omega)); (try have yy_w2_w24_3 : w2.heap.size < w24.heap.size + 1 + 1 + 1 := (by omega)); (try have yy_w20_w24_0 : w20.heap.size < w24.heap.size := (by omega)); (try have yy_w20_w24_1 : w20.heap.size < w24.heap.size + 1 := (by omega)); (try have yy_w20_w24_2 : w20.heap.size < w24.heap.size + 1 + 1 := (by omega)); (try have yy_w20_w24_3 : w20.heap.size < w24.heap.size + 1 + 1 + 1 := (by omega)); (try have yy_w21_w24_0 : w21.heap.size < w24.heap.size := (by omega)); (try have yy_w21_w24_1 : w21.heap.size < w24.heap.size + 1 := (by omega)); (try have yy_w21_w24_2 : w21.heap.size < w24.heap.size + 1 + 1 := (by omega)); (try have yy_w21_w24_3 : w21.heap.size < w24.heap.size + 1 + 1 + 1 := (by omega)); (try have yy_w22_w24_0 : w22.heap.size < w24.heap.size := (by omega)); (try have yy_w22_w24_1 : w22.heap.size < w24.heap.size + 1 := (by omega)); (try have yy_w22_w24_2 : w22.heap.size < w24.heap.size + 1 + 1 := (by omega)); (try have yy_w22_w24_3 : w22.heap.size < w24.heap.size + 1 + 1 + 1 := (by omega)); (try have yy_w23_w24_0 : w23.heap.size < w24.heap.size := (by omega)); (try have yy_w23_w24_1 : w23.heap.size < w24.heap.size + 1 := (by omega)); (try have yy_w23_w24_2 : w23.heap.size < w24.heap.size + 1 + 1 := (by omega)); (try have yy_w23_w24_3 : w23.heap.size < w24.heap.size + 1 + 1 + 1 := (by omega))) | (go_at_call 13; (with_reducible refine (HCk.out _ _ _ _ bel (Kd.C_below HV20.out.1 bel) HV20.out.2).mono ?_); rintro r w25 ⟨rfl, b25⟩; obtain ⟨hc25, hf25⟩ := bcell b25; have hz25 := below_size b25; (try simp at hz25); have zz25_0 : w.heap.size < w25.heap.size := (by omega); have zz25_1 : w.heap.size + 1 < w25.heap.size := (by omega); (try have yy_wr_w25_0 : wr.heap.size < w25.heap.size := (by omega)); (try have yy_wr_w25_1 : wr.heap.size < w25.heap.size + 1 := (by omega)); (try have yy_wr_w25_2 : wr.heap.size < w25.heap.size + 1 + 1 := (by omega)); (try have yy_wr_w25_3 : wr.heap.size < w25.heap.size + 1 + 1 + 1 := (by omega)); (try have yy_w2_w25_0 : w2.heap.size < w25.heap.size := (by omega)); (try have yy_w2_w25_1 : w2.heap.size < w25.heap.size + 1 := (by omega)); (try have yy_w2_w25_2 : w2.heap.size < w25.heap.size + 1 + 1 := (by omega)); (try have yy_w2_w25_3 : w2.heap.size < w25.heap.size + 1 + 1 + 1 := (by omega)); (try have yy_w20_w25_0 : w20.heap.size < w25.heap.size := (by omega)); (try have yy_w20_w25_1 : w20.heap.size < w25.heap.size + 1 := (by omega)); (try have yy_w20_w25_2 : w20.heap.size < w25.heap.size + 1 + 1 := (by omega)); (try have yy_w20_w25_3 : w20.heap.size < w25.heap.size + 1 + 1 + 1 := (by omega)); (try have yy_w21_w25_0 : w21.heap.size < w25.heap.size := (by omega)); (try have yy_w21_w25_1 : w21.heap.size < w25.heap.size + 1 := (by omega)); (try have yy_w21_w25_2 : w21.heap.size < w25.heap.size + 1 + 1 := (by omega)); (try have yy_w21_w25_3 : w21.heap.size < w25.heap.size + 1 + 1 + 1 := (by omega)); (try have yy_w22_w25_0 : w22.heap.size < w25.heap.size := (by omega)); (try have yy_w22_w25_1 : w22.heap.size < w25.heap.size + 1 := (by omega)); (try have yy_w22_w25_2 : w22.heap.size < w25.heap.size + 1 + 1 := (by omega)); (try have yy_w22_w25_3 : w22.heap.size < w25.heap.size + 1 + 1 + 1 := (by omega)); (try have yy_w23_w25_0 : w23.heap.size < w25.heap.size := (by omega)); (try have yy_w23_w25_1 : w23.heap.size < w25.heap.size + 1 := (by omega)); (try have yy_w23_w25_2 : w23.heap.size < w25.heap.size + 1 + 1 := (by omega)); (try have yy_w23_w25_3 : w23.heap.size < w25.heap.size + 1 + 1 + 1 := (by omega)); (try have yy_w24_w25_0 : w24.heap.size < w25.heap.size := (by omega)); (try have yy_w24_w25_1 : w24.heap.size < w25.heap.size + 1 := (by omega)); (try have yy_w24_w25_2 : w24.heap.size < w25.heap.size + 1 + 1 := (by omega)); (try have yy_w24_w25_3 : w24.heap.size < w25.heap.size + 1 + 1 + 1 := (by omega))))
      all_goals
        go_ret
        exact ⟨rfl, bel⟩
end Go.Proofs.YtiplbpfdkcddlaaDoor

set_option linter.unusedSimpArgs false
set_option linter.unusedVariables false
set_option linter.unnecessarySimpa false
namespace Go.Proofs.YtiplbpfdkcddlaaDoor
open Go.RowKit Go.Proofs.YtiplbpfdkcddlaaDoorW.PrintWords Go.Proofs.YtiplbpfdkcddlaaDoorW.PrintLast Go.Proofs.YtiplbpfdkcddlaaDoorW.PrintMore Go.Proofs.YtiplbpfdkcddlaaDoor.NL
set_option maxRecDepth 100000

/-- A row of limbs that came in. -/
def IsRow (k : IntKind) (w : World) (a : Option Addr) (len cap : Nat) (zs : List Int) : Prop :=
  (a = none ∧ len = 0 ∧ cap = 0 ∧ zs = []) ∨
  ∃ x, a = some x ∧ len ≤ cap ∧ cap ≤ maxLen ∧ zs.length = cap ∧ (∀ i, i < zs.length → w.cell? (x.add i) = some (.int k (zs.getD i 0))) ∧ ∀ n ∈ zs, (Lit.int k n).wf = true
theorem nat_row {W : World} {a : Option Addr} {len cap : Nat} {z : List Int} (h : IsRow .u32 W a len cap z) : ∃ l : List Int, len = l.length ∧ Kd.C (Kd.int .u32) W a l.length l ∧ l.length ≤ cap ∧ Lim l ∧ l.length ≤ maxLen := by
  obtain ⟨l1, rfl, hr1, hm1, hw1, hc1⟩ := ReadsInt.ofRowC h
  refine ⟨l1, rfl, Kd.C_of_reads (d := (0 : Int)) (h1 := fun _ => rfl) hr1, hc1, ?_, hm1⟩
  intro n hn
  have := hw1 n hn
  simp [Lit.wf, IntKind.min, IntKind.max, IntKind.signed, IntKind.bits] at this
  omega
end Go.Proofs.YtiplbpfdkcddlaaDoor

set_option linter.unusedSimpArgs false
set_option linter.unusedVariables false
set_option linter.unnecessarySimpa false
namespace Go.Proofs.YtiplbpfdkcddlaaDoor
open Go.RowKit Go.Proofs.YtiplbpfdkcddlaaDoorW.PrintWords Go.Proofs.YtiplbpfdkcddlaaDoorW.PrintLast Go.Proofs.YtiplbpfdkcddlaaDoorW.PrintMore Go.Proofs.YtiplbpfdkcddlaaDoor.NL
set_option maxRecDepth 100000
set_option exponentiation.threshold 33000

theorem eq_l0 {f cl ex : Int} {ng : Bool} {l : List Int} (hn : l.length ≤ 9223372036854775807) : ∀ (t i : Nat), i + t = l.length → XEqual.sorobanlaw06_equal.l0 (t + 1) (i : Int) f cl ng l ex f cl ng l ex = some true := by
  intro t
  induction t with
  | zero =>
    intro i hi
    simp only [XEqual.sorobanlaw06_equal.l0]
    rw [if_neg (by omega)]
  | succ t ih =>
    intro i hi
    have hi2 := ih (i + 1) (by omega)
    have h1 : i < l.length := by omega
    clear hi ih
    generalize t + 1 = k at *
    simp only [XEqual.sorobanlaw06_equal.l0]
    rw [if_pos (by omega), if_pos (by omega), w64, show (i : Int) + 1 = ((i + 1 : Nat) : Int) by omega]
    simp only [if_true]
    rw [if_pos (by omega)]
    exact hi2
theorem eq_val {f cl ex : Int} {ng : Bool} {l : List Int} (hn : l.length ≤ 9223372036854775807) : XEqual.sorobanlaw06_equal.f (l.length + 1 + 1) f cl ng l ex f cl ng l ex = some true := by
  have h := eq_l0 (f := f) (cl := cl) (ex := ex) (ng := ng) hn l.length 0 (by omega)
  unfold XEqual.sorobanlaw06_equal.f
  rw [if_pos rfl, if_pos rfl, if_neg (by simp), if_pos rfl, show ((l.length : Int) != (l.length : Int)) = false from by simp]
  simp only [XEqual.sorobanlaw06_equal.j0]
  rw [if_neg (by decide)]
  exact h
theorem equal_ok {f cl ex : Int} {ng : Bool} {A B : Option Addr} {n m c d : Nat} {l : List Int} (w : World) (hA : Kd.C (Kd.int .u32) w A n l) (hc : n ≤ c) (hB : Kd.C (Kd.int .u32) w B m l) (hd : m ≤ d) (hn : l.length ≤ 9223372036854775807) :
    Calls Tryd.prog 11 #[dV f cl ng A n c ex, dV f cl ng B m d ex] w fun r w' => r = .returned (.bool true) ∧ Below w.heap.size w w' := by
  obtain rfl : l.length = n := hA.1
  obtain rfl : l.length = m := hB.1
  exact XEqual.sorobanlaw06_equal.calls (l.length + 1 + 1) f cl ng A c l ex f cl ng B d l ex true w hA hc hB hd (eq_val hn)
theorem wd_beq {M N : Nat} {hi lo hi' lo' : Int} (h : Wd M hi lo) (h' : Wd N hi' lo') : (hi == hi' && (lo == lo')) = decide (M = N) := by
  by_cases e : M = N
  · subst e
    obtain ⟨rfl, rfl⟩ := wd_eq h' h
    rw [beq_self_eq_true, beq_self_eq_true, decide_eq_true rfl]; rfl
  · rw [decide_eq_false e, Bool.and_eq_false_iff]
    by_cases e1 : hi = hi'
    · by_cases e2 : lo = lo'
      · exfalso
        subst e1; subst e2
        obtain ⟨a0, a1, b0, b1, e3⟩ := h
        obtain ⟨c0, c1, d0, d1, e4⟩ := h'
        exact e (by omega)
      · exact .inr (beq_eq_false_iff_ne.mpr e2)
    · exact .inl (beq_eq_false_iff_ne.mpr e1)
/-- What was written is read (decR of packX). -/
theorem dec_of_enc {f cl e ex : Int} {ng : Bool} {l : List Int} (la : Lim l) (he : e = 1 ∨ e = 2) (hd : decOk f cl l ex = true) : decR f e (packX f e cl ng (val l) ex) = (f, cl, ng, l, ex, true, 0) := by
  obtain ⟨hf, hl, hv⟩ := okD hd la
  obtain ⟨h1, h2, h3, h4, h5, h6⟩ := written_read (e := e) (ng := ng) hf hv
  unfold decR
  rw [if_pos ⟨hf, he, h1⟩, h2, h3, h4, h5, h6, ← hl]
theorem rec_ok {f e t : Int} {N : Nat} (hf : isDec f = true) (he : e = 1 ∨ e = 2) (ht : t = 1 ∨ t = 2) (hN : N < 2 ^ sN f) : recR f e t N = (packX f t (clN f N) (ngN f N) (coN f e N) (exN f e N), 0) := by
  have hv := read_ok (e := e) hf hN
  have hR : decR f e N = (f, clN f N, ngN f N, ofN (coN f e N), exN f e N, caN f e N, 0) := by unfold decR; rw [if_pos ⟨hf, he, hN⟩]
  unfold recR
  rw [hR]
  show (if (0 : Int) = 0 then encR f (clN f N) (ngN f N) (ofN (coN f e N)) (exN f e N) t else (0, 0)) = _
  rw [if_pos rfl]
  unfold encR
  rw [if_pos ⟨okD_iff hf hv, ht⟩, val_ofN]
theorem rec_back {f e t cl ex : Int} {ng : Bool} {C : Nat} (hf : isDec f = true) (he : e = 1 ∨ e = 2) (ht : t = 1 ∨ t = 2) (hv : decV f cl C ex) : recR f e t (packX f e cl ng C ex) = (packX f t cl ng C ex, 0) := by
  have hd := okD_iff hf hv
  have h := dec_of_enc (ng := ng) (lim_ofN C) he hd
  rw [val_ofN] at h
  unfold recR
  rw [h]
  show (if (0 : Int) = 0 then encR f cl ng (ofN C) ex t else (0, 0)) = _
  rw [if_pos rfl]
  unfold encR
  rw [if_pos ⟨hd, ht⟩, val_ofN]
theorem decimalBack_walk (f cl : Int) (ng : Bool) (A : Option Addr) (c : Nat) (l : List Int) (ex fm enc hi0 lo0 : Int) (W : World) (hA : Kd.C (Kd.int .u32) W A l.length l) (hc : l.length ≤ c) (la : Lim l) (hn : l.length ≤ 9223372036854775807) (w1 : (Lit.int .i64 fm).wf = true) (w2 : (Lit.int .i64 enc).wf = true) (w3 : (Lit.int .u64 hi0).wf = true) (w4 : (Lit.int .u64 lo0).wf = true) (hT : Tab W) :
    Calls Tryd.prog 4 #[.agg #[.int .i64 f, .int .i64 cl, .bool ng, .slice A l.length c, .int .i64 ex], .int .i64 fm, .int .i64 enc, .agg #[.int .u64 hi0, .int .u64 lo0]] W fun e w' => e = .returned (.bool true) ∧ Below W.heap.size W w' := by
  simp [Lit.wf, IntKind.min, IntKind.max, IntKind.signed, IntKind.bits] at w3 w4
  obtain ⟨N, hw⟩ : ∃ N, Wd N hi0 lo0 := ⟨hi0.toNat * 18446744073709551616 + lo0.toNat, by omega, by omega, by omega, by omega, rfl⟩
  have HAw : Hid (∀ w', Below W.heap.size W w' → Calls Tryd.prog 5 #[] w' fun r w'' => r = .returned (.bool true) ∧ Below w'.heap.size w' w'') := Lib.hid fun w' hb => awake_ok w' (hT.below hb)
  have kk : ∀ k : Nat, 1 ≤ k → k ≤ 2 → ((k : Int) = 1 ∨ (k : Int) = 2) := fun k h1 h2 => by omega
  have HDr0 := fun w' (hb : Below W.heap.size W w') => ddecode_any (f := fm) (e := enc) w' (hT.below hb) hw
  have hLim := decR_lim fm enc N
  by_cases hd : decOk f cl l ex = true
  · have HEn : Hid (∀ (k : Nat) w', 1 ≤ k → k ≤ 2 → Below W.heap.size W w' → Kd.C (Kd.int .u32) w' A l.length l → Calls Tryd.prog 9 #[dV f cl ng A l.length c ex, .int .i64 (k : Nat)] w' (EncP (packX f (k : Nat) cl ng (val l) ex) w')) := Lib.hid fun k w' h1 h2 hb g => dencode_ok w' (hT.below hb) (kk k h1 h2) hd g la hc
    have HDe : Hid (∀ (k : Nat) hi lo w', 1 ≤ k → k ≤ 2 → Below W.heap.size W w' → Hid (Wd (packX f (k : Nat) cl ng (val l) ex) hi lo) → Calls Tryd.prog 10 #[.int .i64 f, .int .i64 (k : Nat), wV hi lo] w' fun r w'' => ∃ u, r = .returned (.tuple #[.agg #[.int .i64 f, .int .i64 cl, .bool ng, u, .int .i64 ex], .bool true, .int .i64 0]) ∧ Kd.R (Kd.int .u32) 46 w'' w'.heap.size (fun _ => True) u l ∧ Below w'.heap.size w' w'') := Lib.hid fun k hi lo w' h1 h2 hb g => by
      have := ddecode_any (f := f) (e := (k : Nat)) w' (hT.below hb) g.out
      rwa [dec_of_enc la (kk k h1 h2) hd] at this
    have HEq : Hid (∀ A' n' c' w', Kd.C (Kd.int .u32) w' A' n' l → n' ≤ c' → Kd.C (Kd.int .u32) w' A l.length l → Calls Tryd.prog 11 #[dV f cl ng A' n' c' ex, dV f cl ng A l.length c ex] w' fun r w'' => r = .returned (.bool true) ∧ Below w'.heap.size w' w'') := Lib.hid fun A' n' c' w' g1 g2 g3 => equal_ok w' g1 g2 g3 hc hn
    by_cases her : isDec fm = true ∧ (enc = 1 ∨ enc = 2) ∧ N < 2 ^ sN fm
    · skip
      obtain ⟨hf, he, hN⟩ := her
      have hv := read_ok (e := enc) hf hN
      have hdk := okD_iff hf hv
      have ht : 3 - enc = 1 ∨ 3 - enc = 2 := by omega
      have HDr : Hid (∀ w', Below W.heap.size W w' → Calls Tryd.prog 10 #[.int .i64 fm, .int .i64 enc, wV hi0 lo0] w' fun r w'' => ∃ u, r = .returned (.tuple #[.agg #[.int .i64 fm, .int .i64 (clN fm N), .bool (ngN fm N), u, .int .i64 (exN fm enc N)], .bool (caN fm enc N), .int .i64 0]) ∧ Kd.R (Kd.int .u32) 46 w'' w'.heap.size (fun _ => True) u (ofN (coN fm enc N)) ∧ Below w'.heap.size w' w'') := Lib.hid fun w' hb => ddecode_ok w' (hT.below hb) hf he hw hN
      have HEr : Hid (∀ A n c w', Below W.heap.size W w' → Kd.C (Kd.int .u32) w' A n (ofN (coN fm enc N)) → n ≤ c → Calls Tryd.prog 9 #[.agg #[.int .i64 fm, .int .i64 (clN fm N), .bool (ngN fm N), .slice A n c, .int .i64 (exN fm enc N)], .int .i64 enc] w' (EncP (packX fm enc (clN fm N) (ngN fm N) (coN fm enc N) (exN fm enc N)) w')) := Lib.hid fun A n c w' hb g1 g2 => by
        have := dencode_ok (ng := ngN fm N) w' (hT.below hb) he hdk g1 (lim_ofN _) g2
        rwa [val_ofN] at this
      have HR1 : Hid (∀ w', Below W.heap.size W w' → Calls Tryd.prog 12 #[.int .i64 fm, .int .i64 enc, .int .i64 (3 - enc), wV hi0 lo0] w' (EncP (packX fm (3 - enc) (clN fm N) (ngN fm N) (coN fm enc N) (exN fm enc N)) w')) := Lib.hid fun w' hb => by
        have := drecode_any (f := fm) (from_ := enc) (to_ := 3 - enc) w' (hT.below hb) hw
        rw [rec_ok hf he ht hN] at this
        exact this
      have HR2 : Hid (∀ hi lo w', Below W.heap.size W w' → Hid (Wd (packX fm (3 - enc) (clN fm N) (ngN fm N) (coN fm enc N) (exN fm enc N)) hi lo) → Calls Tryd.prog 12 #[.int .i64 fm, .int .i64 (3 - enc), .int .i64 enc, wV hi lo] w' (EncP (packX fm enc (clN fm N) (ngN fm N) (coN fm enc N) (exN fm enc N)) w')) := Lib.hid fun hi lo w' hb g => by
        have := drecode_any (f := fm) (from_ := 3 - enc) (to_ := enc) w' (hT.below hb) g.out
        rw [rec_back hf ht he hv] at this
        exact this
      have HR3 : Hid (∀ w', Below W.heap.size W w' → Calls Tryd.prog 12 #[.int .i64 fm, .int .i64 enc, .int .i64 enc, wV hi0 lo0] w' (EncP (packX fm enc (clN fm N) (ngN fm N) (coN fm enc N) (exN fm enc N)) w')) := Lib.hid fun w' hb => by
        have := drecode_any (f := fm) (from_ := enc) (to_ := enc) w' (hT.below hb) hw
        rw [rec_ok hf he he hN] at this
        exact this
      have HCk : Hid (∀ A n c w', Below W.heap.size W w' → Kd.C (Kd.int .u32) w' A n (ofN (coN fm enc N)) → n ≤ c → Calls Tryd.prog 13 #[.agg #[.int .i64 fm, .int .i64 (clN fm N), .bool (ngN fm N), .slice A n c, .int .i64 (exN fm enc N)]] w' fun r w'' => r = .returned (.int .i64 0) ∧ Below w'.heap.size w' w'') := Lib.hid fun A n c w' hb g1 g2 => by
        have := dcheck_any (f := fm) (cl := clN fm N) (ng := ngN fm N) (ex := exN fm enc N) w' (hT.below hb) g1 (lim_ofN _) g2
        rwa [hdk, if_pos rfl] at this
      have HCB : Hid (∀ hi lo, Hid (Wd (packX fm enc (clN fm N) (ngN fm N) (coN fm enc N) (exN fm enc N)) hi lo) → (hi == hi0 && (lo == lo0)) = caN fm enc N) := Lib.hid fun hi lo g => (wd_beq g.out hw).trans (canonical hf hN).symm
      exact back_tf (X := fun k => packX f (k : Nat) cl ng (val l) ex) (er := 0) W hA hc HAw HEn HDe HEq HDr HEr HR1 HR2 HR3 HCk HCB (by omega)
    · unfold decR at HDr0
      simp only [if_neg her] at HDr0
      exact back_tt (M := 0) (M2 := 0) (X := fun k => packX f (k : Nat) cl ng (val l) ex) W hA hc HAw HEn HDe HEq (er := 1) (by decide) (Lib.hid HDr0)
  · have HEn : Hid (∀ w', Below W.heap.size W w' → Calls Tryd.prog 9 #[dV f cl ng A l.length c ex, .int .i64 1] w' fun r w'' => r = .returned (.tuple #[wV 0 0, .int .i64 1]) ∧ Below w'.heap.size w' w'') := Lib.hid fun w' hb => by
      have := dencode_any (f := f) (cl := cl) (ng := ng) (ex := ex) (e := 1) w' (hT.below hb) (Kd.C_below hA hb) la hc
      unfold encR at this
      rw [if_neg (fun h => hd h.1)] at this
      refine this.mono ?_
      rintro r w'' ⟨hi, lo, rfl, hw2, hb2⟩
      obtain ⟨rfl, rfl⟩ := wd_eq (show Wd 0 0 0 from ⟨by decide, by decide, by decide, by decide, rfl⟩) hw2.out
      exact ⟨rfl, hb2⟩
    by_cases her : isDec fm = true ∧ (enc = 1 ∨ enc = 2) ∧ N < 2 ^ sN fm
    · skip
      obtain ⟨hf, he, hN⟩ := her
      have hv := read_ok (e := enc) hf hN
      have hdk := okD_iff hf hv
      have ht : 3 - enc = 1 ∨ 3 - enc = 2 := by omega
      have HDr : Hid (∀ w', Below W.heap.size W w' → Calls Tryd.prog 10 #[.int .i64 fm, .int .i64 enc, wV hi0 lo0] w' fun r w'' => ∃ u, r = .returned (.tuple #[.agg #[.int .i64 fm, .int .i64 (clN fm N), .bool (ngN fm N), u, .int .i64 (exN fm enc N)], .bool (caN fm enc N), .int .i64 0]) ∧ Kd.R (Kd.int .u32) 46 w'' w'.heap.size (fun _ => True) u (ofN (coN fm enc N)) ∧ Below w'.heap.size w' w'') := Lib.hid fun w' hb => ddecode_ok w' (hT.below hb) hf he hw hN
      have HEr : Hid (∀ A n c w', Below W.heap.size W w' → Kd.C (Kd.int .u32) w' A n (ofN (coN fm enc N)) → n ≤ c → Calls Tryd.prog 9 #[.agg #[.int .i64 fm, .int .i64 (clN fm N), .bool (ngN fm N), .slice A n c, .int .i64 (exN fm enc N)], .int .i64 enc] w' (EncP (packX fm enc (clN fm N) (ngN fm N) (coN fm enc N) (exN fm enc N)) w')) := Lib.hid fun A n c w' hb g1 g2 => by
        have := dencode_ok (ng := ngN fm N) w' (hT.below hb) he hdk g1 (lim_ofN _) g2
        rwa [val_ofN] at this
      have HR1 : Hid (∀ w', Below W.heap.size W w' → Calls Tryd.prog 12 #[.int .i64 fm, .int .i64 enc, .int .i64 (3 - enc), wV hi0 lo0] w' (EncP (packX fm (3 - enc) (clN fm N) (ngN fm N) (coN fm enc N) (exN fm enc N)) w')) := Lib.hid fun w' hb => by
        have := drecode_any (f := fm) (from_ := enc) (to_ := 3 - enc) w' (hT.below hb) hw
        rw [rec_ok hf he ht hN] at this
        exact this
      have HR2 : Hid (∀ hi lo w', Below W.heap.size W w' → Hid (Wd (packX fm (3 - enc) (clN fm N) (ngN fm N) (coN fm enc N) (exN fm enc N)) hi lo) → Calls Tryd.prog 12 #[.int .i64 fm, .int .i64 (3 - enc), .int .i64 enc, wV hi lo] w' (EncP (packX fm enc (clN fm N) (ngN fm N) (coN fm enc N) (exN fm enc N)) w')) := Lib.hid fun hi lo w' hb g => by
        have := drecode_any (f := fm) (from_ := 3 - enc) (to_ := enc) w' (hT.below hb) g.out
        rw [rec_back hf ht he hv] at this
        exact this
      have HR3 : Hid (∀ w', Below W.heap.size W w' → Calls Tryd.prog 12 #[.int .i64 fm, .int .i64 enc, .int .i64 enc, wV hi0 lo0] w' (EncP (packX fm enc (clN fm N) (ngN fm N) (coN fm enc N) (exN fm enc N)) w')) := Lib.hid fun w' hb => by
        have := drecode_any (f := fm) (from_ := enc) (to_ := enc) w' (hT.below hb) hw
        rw [rec_ok hf he he hN] at this
        exact this
      have HCk : Hid (∀ A n c w', Below W.heap.size W w' → Kd.C (Kd.int .u32) w' A n (ofN (coN fm enc N)) → n ≤ c → Calls Tryd.prog 13 #[.agg #[.int .i64 fm, .int .i64 (clN fm N), .bool (ngN fm N), .slice A n c, .int .i64 (exN fm enc N)]] w' fun r w'' => r = .returned (.int .i64 0) ∧ Below w'.heap.size w' w'') := Lib.hid fun A n c w' hb g1 g2 => by
        have := dcheck_any (f := fm) (cl := clN fm N) (ng := ngN fm N) (ex := exN fm enc N) w' (hT.below hb) g1 (lim_ofN _) g2
        rwa [hdk, if_pos rfl] at this
      have HCB : Hid (∀ hi lo, Hid (Wd (packX fm enc (clN fm N) (ngN fm N) (coN fm enc N) (exN fm enc N)) hi lo) → (hi == hi0 && (lo == lo0)) = caN fm enc N) := Lib.hid fun hi lo g => (wd_beq g.out hw).trans (canonical hf hN).symm
      exact back_ff (X := fun _ => 0) (er := 0) W hA hc HAw HEn HDr HEr HR1 HR2 HR3 HCk HCB (by omega)
    · unfold decR at HDr0
      simp only [if_neg her] at HDr0
      exact back_ft (M := 0) (M2 := 0) (X := fun _ => 0) W hA hc HAw HEn (er := 1) (by decide) (Lib.hid HDr0)
end Go.Proofs.YtiplbpfdkcddlaaDoor
