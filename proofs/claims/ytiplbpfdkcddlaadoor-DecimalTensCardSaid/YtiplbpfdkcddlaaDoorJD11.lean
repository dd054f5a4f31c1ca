/- decimal: number of the packed encoding: its walk in two cases. decimal: number of the packed encoding: what it returns; encodings. decimal: encodings, and the fields of bits. decimal.Decode of a finite datum: its walk. General: what a drawn region keeps that writes one block of its own. -/
import Derived.Test.YtiplbpfdkcddlaaDoorJD10
import Derived.Test.YtiplbpfdkcddlaaDoorJD8
import Derived.Test.YtiplbpfdkcddlaaDoorJD1
set_option linter.unusedSimpArgs false
set_option linter.unusedVariables false
set_option linter.unnecessarySimpa false
namespace Go.Proofs.YtiplbpfdkcddlaaDoor
open Go.RowKit Go.Proofs.YtiplbpfdkcddlaaDoorW.PrintWords Go.Proofs.YtiplbpfdkcddlaaDoorW.PrintLast Go.Proofs.YtiplbpfdkcddlaaDoorW.PrintMore Go.Proofs.YtiplbpfdkcddlaaDoor.NL
set_option maxRecDepth 100000
set_option exponentiation.threshold 33000

set_option maxHeartbeats 8000000 in
theorem tnum_a {G u n p1 wn k q x Y Q R : Nat} {cb : Bool} {hi lo P L H : Int} (w : World)
    (hP1 : wrap64 (P - 1) = (p1 : Nat)) (hP2 : IntKind.i64.wrap (P - 1) = (p1 : Nat)) (hwn : wn ≤ 12)
    (e1 : (G : Int) / 2 ^ (wn + 3) = (u : Nat)) (t1 : ((u : Int) == 3) = false) (e2 : bits .and .u64 ((G : Int) / 2 ^ wn) 7 = (n : Nat))
    (e6 : IntKind.u64.wrap ((u : Int) * 2 ^ wn) = ((u * 2 ^ wn : Nat) : Int)) (e7 : IntKind.u64.wrap (2 ^ wn) = (2 : Int) ^ wn) (e8 : IntKind.u64.wrap ((2 : Int) ^ wn - 1) = ((2 ^ wn - 1 : Nat) : Int)) (e9 : bits .and .u64 (G : Int) ((2 ^ wn - 1 : Nat) : Int) = ((G % 2 ^ wn : Nat) : Int)) (e10 : wrap64 (L + wrap64 (bits .or .u64 ((u : Int) * 2 ^ wn) ((G : Int) % 2 ^ wn))) = L + (q : Int))
    (HPay : Hid (∀ w', Calls Tryd.prog 108 #[.agg #[], fV P L H (wn : Nat) (10 * (k : Int)), wV hi lo] w' (PayP x cb w')))
    (HFu : Hid (∀ w', Calls Tryd.prog 104 #[.int .u64 (n : Nat)] w' (Gives n w')))
    (HPw : Hid (∀ w', Calls Tryd.prog 34 #[.int .i64 (p1 : Nat)] w' (NewRow w' (ofN Y))))
    (HMu : Hid (∀ A n1 c A' n' c' w', Kd.C (Kd.int .u32) w' A n1 (ofN n) → n1 ≤ c → Kd.C (Kd.int .u32) w' A' n' (ofN Y) → n' ≤ c' → Calls Tryd.prog 36 #[.slice A n1 c, .slice A' n' c'] w' (NumErr (ofN Q) 0 w')))
    (HAd : Hid (∀ A n1 c A' n' c' w', Kd.C (Kd.int .u32) w' A n1 (ofN Q) → n1 ≤ c → Kd.C (Kd.int .u32) w' A' n' (ofN x) → n' ≤ c' → Calls Tryd.prog 105 #[.slice A n1 c, .slice A' n' c'] w' (NumErr (ofN R) 0 w'))) :
    Calls Tryd.prog 107 #[.agg #[], fV P L H (wn : Nat) (10 * (k : Int)), .int .u64 (G : Nat), wV hi lo] w fun r w' => ∃ v, r = .returned (.tuple #[v, .int .i64 (L + (q : Int)), .bool cb]) ∧ Kd.R (Kd.int .u32) 46 w' w.heap.size (fun _ => True) v (ofN R) ∧ Below w.heap.size w w' := by
  have h3 : decide ((wn : Int) + 3 < 0) = false := decide_eq_false (by omega)
  have h1 : decide ((wn : Int) + 1 < 0) = false := decide_eq_false (by omega)
  have h0 : decide ((wn : Int) < 0) = false := decide_eq_false (by omega)
  go_enter Tryd.func107, Tryd.ntmps107
  go_wp2_with fail
  go_region
  go_wp2_with (first | fail | (go_at_call 108; (with_reducible refine (HPay.out _).mono ?_); rintro r w1 ⟨v1, rfl, hv1, b1⟩; obtain ⟨A1, c1, rfl⟩ := Kd.R_slice hv1; have HV1 := Lib.hid hv1; clear hv1; obtain ⟨hc1, hf1⟩ := bcell b1; (try simp only [dr_size, dr_cell] at hc1); (try simp only [dr_size, dr_frozen] at hf1); have hz1 := below_size b1; (try simp at hz1); have zz1_0 : w.heap.size < w1.heap.size := (by omega); have zz1_1 : w.heap.size + 1 < w1.heap.size := (by omega); have zz1_2 : w.heap.size + 1 + 1 < w1.heap.size := (by omega)))
  go_region_held3 (fun w' => Below (w1).heap.size (w1) w' ∧ ∀ b o, b < (w1).heap.size → w'.cell? ⟨b, o, none⟩ = (w1).cell? ⟨b, o, none⟩) (first | ((try go_split_ands); refine below_S ?_; ((repeat (first | with_reducible assumption | with_reducible exact Below.refl _ _ | with_reducible refine below_alloc ?_ _ | with_reducible refine pw_below_drewN ?_ _ | with_reducible refine below_drew1 ?_ | ((with_reducible refine below_set ?_ ?hle); (case hle => first | (simp; done) | omega | (simp; omega))) | with_reducible refine below_step ?_ (by with_reducible assumption))); done))) (first | (go_at_call 104; (with_reducible refine (HFu.out _).mono ?_); rintro r w2 ⟨A2, n2, c2, rfl, HV2, b2⟩; obtain ⟨hc2, hf2⟩ := bcell b2; (try simp only [dr_size, dr_cell] at hc2); (try simp only [dr_size, dr_frozen] at hf2); have hz2 := below_size b2; (try simp at hz2); have zz2_0 : w.heap.size < w2.heap.size := (by omega); have zz2_1 : w.heap.size + 1 < w2.heap.size := (by omega); have zz2_2 : w.heap.size + 1 + 1 < w2.heap.size := (by omega)) | (go_at_call 34; (try rw [hP1]); (try rw [hP2]); (with_reducible refine (HPw.out _).mono ?_); rintro r w3 ⟨v3, rfl, hv3, b3⟩; obtain ⟨A3, c3, rfl⟩ := Kd.R_slice hv3; have HV3 := Lib.hid hv3; clear hv3; obtain ⟨hc3, hf3⟩ := bcell b3; (try simp only [dr_size, dr_cell] at hc3); (try simp only [dr_size, dr_frozen] at hf3); have hz3 := below_size b3; (try simp at hz3); have zz3_0 : w.heap.size < w3.heap.size := (by omega); have zz3_1 : w.heap.size + 1 < w3.heap.size := (by omega); have zz3_2 : w.heap.size + 1 + 1 < w3.heap.size := (by omega)) | (go_at_call 36; (with_reducible refine (HMu.out _ _ _ _ _ _ _ (Kd.C_below HV2.out.2 bel) HV2.out.1 (Kd.C_below (R_C HV3.out).1 bel) (R_C HV3.out).2).mono ?_); rintro r w4 ⟨v4, rfl, hv4, b4⟩; obtain ⟨A4, c4, rfl⟩ := Kd.R_slice hv4; have HV4 := Lib.hid hv4; clear hv4; obtain ⟨hc4, hf4⟩ := bcell b4; (try simp only [dr_size, dr_cell] at hc4); (try simp only [dr_size, dr_frozen] at hf4); have hz4 := below_size b4; (try simp at hz4); have zz4_0 : w.heap.size < w4.heap.size := (by omega); have zz4_1 : w.heap.size + 1 < w4.heap.size := (by omega); have zz4_2 : w.heap.size + 1 + 1 < w4.heap.size := (by omega)))
  all_goals
    go_wp2_with (first | fail | (go_at_call 105; (with_reducible refine (HAd.out _ _ _ _ _ _ _ (Kd.C_below (R_C HV4.out).1 bel) (R_C HV4.out).2 (Kd.C_below (R_C HV1.out).1 bel) (R_C HV1.out).2).mono ?_); rintro r w5 ⟨v5, rfl, hv5, b5⟩; obtain ⟨A5, c5, rfl⟩ := Kd.R_slice hv5; have HV5 := Lib.hid hv5; clear hv5; obtain ⟨hc5, hf5⟩ := bcell b5; have hz5 := below_size b5; (try simp at hz5); have zz5_0 : w.heap.size < w5.heap.size := (by omega); have zz5_1 : w.heap.size + 1 < w5.heap.size := (by omega); have zz5_2 : w.heap.size + 1 + 1 < w5.heap.size := (by omega)))
    go_region
    go_wp2_with fail
    all_goals exact bodyPost_ret (v := .tuple #[.slice A5 (ofN R).length c5, .int .i64 (L + (q : Int)), .bool cb]) (by first | (simp [results, Tryd.results107, go_sem, *]; done) | (simp [results, Tryd.results107, go_sem, *]; exact e10)) rfl ⟨_, rfl, Kd.R_lower HV5.out (by first | omega | (simp; done) | (simp; omega)), bel⟩
set_option maxHeartbeats 8000000 in
theorem tnum_b {G u n p1 wn k q x Y Q R b : Nat} {cb : Bool} {hi lo P L H : Int} (w : World)
    (hP1 : wrap64 (P - 1) = (p1 : Nat)) (hP2 : IntKind.i64.wrap (P - 1) = (p1 : Nat)) (hwn : wn ≤ 12)
    (e1 : (G : Int) / 2 ^ (wn + 3) = 3) (e3 : bits .and .u64 ((G : Int) / 2 ^ (wn + 1)) 3 = (u : Nat)) (e4 : bits .and .u64 ((G : Int) / 2 ^ wn) 1 = (b : Nat)) (e5 : bits .or .u64 8 (b : Nat) = (n : Nat))
    (e6 : IntKind.u64.wrap ((u : Int) * 2 ^ wn) = ((u * 2 ^ wn : Nat) : Int)) (e7 : IntKind.u64.wrap (2 ^ wn) = (2 : Int) ^ wn) (e8 : IntKind.u64.wrap ((2 : Int) ^ wn - 1) = ((2 ^ wn - 1 : Nat) : Int)) (e9 : bits .and .u64 (G : Int) ((2 ^ wn - 1 : Nat) : Int) = ((G % 2 ^ wn : Nat) : Int)) (e10 : wrap64 (L + wrap64 (bits .or .u64 ((u : Int) * 2 ^ wn) ((G : Int) % 2 ^ wn))) = L + (q : Int))
    (HPay : Hid (∀ w', Calls Tryd.prog 108 #[.agg #[], fV P L H (wn : Nat) (10 * (k : Int)), wV hi lo] w' (PayP x cb w')))
    (HFu : Hid (∀ w', Calls Tryd.prog 104 #[.int .u64 (n : Nat)] w' (Gives n w')))
    (HPw : Hid (∀ w', Calls Tryd.prog 34 #[.int .i64 (p1 : Nat)] w' (NewRow w' (ofN Y))))
    (HMu : Hid (∀ A n1 c A' n' c' w', Kd.C (Kd.int .u32) w' A n1 (ofN n) → n1 ≤ c → Kd.C (Kd.int .u32) w' A' n' (ofN Y) → n' ≤ c' → Calls Tryd.prog 36 #[.slice A n1 c, .slice A' n' c'] w' (NumErr (ofN Q) 0 w')))
    (HAd : Hid (∀ A n1 c A' n' c' w', Kd.C (Kd.int .u32) w' A n1 (ofN Q) → n1 ≤ c → Kd.C (Kd.int .u32) w' A' n' (ofN x) → n' ≤ c' → Calls Tryd.prog 105 #[.slice A n1 c, .slice A' n' c'] w' (NumErr (ofN R) 0 w'))) :
    Calls Tryd.prog 107 #[.agg #[], fV P L H (wn : Nat) (10 * (k : Int)), .int .u64 (G : Nat), wV hi lo] w fun r w' => ∃ v, r = .returned (.tuple #[v, .int .i64 (L + (q : Int)), .bool cb]) ∧ Kd.R (Kd.int .u32) 46 w' w.heap.size (fun _ => True) v (ofN R) ∧ Below w.heap.size w w' := by
  have h3 : decide ((wn : Int) + 3 < 0) = false := decide_eq_false (by omega)
  have h1 : decide ((wn : Int) + 1 < 0) = false := decide_eq_false (by omega)
  have h0 : decide ((wn : Int) < 0) = false := decide_eq_false (by omega)
  go_enter Tryd.func107, Tryd.ntmps107
  go_wp2_with fail
  go_region
  go_wp2_with fail
  go_region
  go_wp2_with (first | fail | (go_at_call 108; (with_reducible refine (HPay.out _).mono ?_); rintro r w1 ⟨v1, rfl, hv1, b1⟩; obtain ⟨A1, c1, rfl⟩ := Kd.R_slice hv1; have HV1 := Lib.hid hv1; clear hv1; obtain ⟨hc1, hf1⟩ := bcell b1; (try simp only [dr_size, dr_cell] at hc1); (try simp only [dr_size, dr_frozen] at hf1); have hz1 := below_size b1; (try simp at hz1); have zz1_0 : w.heap.size < w1.heap.size := (by omega); have zz1_1 : w.heap.size + 1 < w1.heap.size := (by omega); have zz1_2 : w.heap.size + 1 + 1 < w1.heap.size := (by omega)))
  go_region_held3 (fun w' => Below (w1).heap.size (w1) w' ∧ ∀ b o, b < (w1).heap.size → w'.cell? ⟨b, o, none⟩ = (w1).cell? ⟨b, o, none⟩) (first | ((try go_split_ands); refine below_S ?_; ((repeat (first | with_reducible assumption | with_reducible exact Below.refl _ _ | with_reducible refine below_alloc ?_ _ | with_reducible refine pw_below_drewN ?_ _ | with_reducible refine below_drew1 ?_ | ((with_reducible refine below_set ?_ ?hle); (case hle => first | (simp; done) | omega | (simp; omega))) | with_reducible refine below_step ?_ (by with_reducible assumption))); done))) (first | (go_at_call 104; (with_reducible refine (HFu.out _).mono ?_); rintro r w2 ⟨A2, n2, c2, rfl, HV2, b2⟩; obtain ⟨hc2, hf2⟩ := bcell b2; (try simp only [dr_size, dr_cell] at hc2); (try simp only [dr_size, dr_frozen] at hf2); have hz2 := below_size b2; (try simp at hz2); have zz2_0 : w.heap.size < w2.heap.size := (by omega); have zz2_1 : w.heap.size + 1 < w2.heap.size := (by omega); have zz2_2 : w.heap.size + 1 + 1 < w2.heap.size := (by omega)) | (go_at_call 34; (try rw [hP1]); (try rw [hP2]); (with_reducible refine (HPw.out _).mono ?_); rintro r w3 ⟨v3, rfl, hv3, b3⟩; obtain ⟨A3, c3, rfl⟩ := Kd.R_slice hv3; have HV3 := Lib.hid hv3; clear hv3; obtain ⟨hc3, hf3⟩ := bcell b3; (try simp only [dr_size, dr_cell] at hc3); (try simp only [dr_size, dr_frozen] at hf3); have hz3 := below_size b3; (try simp at hz3); have zz3_0 : w.heap.size < w3.heap.size := (by omega); have zz3_1 : w.heap.size + 1 < w3.heap.size := (by omega); have zz3_2 : w.heap.size + 1 + 1 < w3.heap.size := (by omega)) | (go_at_call 36; (with_reducible refine (HMu.out _ _ _ _ _ _ _ (Kd.C_below HV2.out.2 bel) HV2.out.1 (Kd.C_below (R_C HV3.out).1 bel) (R_C HV3.out).2).mono ?_); rintro r w4 ⟨v4, rfl, hv4, b4⟩; obtain ⟨A4, c4, rfl⟩ := Kd.R_slice hv4; have HV4 := Lib.hid hv4; clear hv4; obtain ⟨hc4, hf4⟩ := bcell b4; (try simp only [dr_size, dr_cell] at hc4); (try simp only [dr_size, dr_frozen] at hf4); have hz4 := below_size b4; (try simp at hz4); have zz4_0 : w.heap.size < w4.heap.size := (by omega); have zz4_1 : w.heap.size + 1 < w4.heap.size := (by omega); have zz4_2 : w.heap.size + 1 + 1 < w4.heap.size := (by omega)))
  all_goals
    go_wp2_with (first | fail | (go_at_call 105; (with_reducible refine (HAd.out _ _ _ _ _ _ _ (Kd.C_below (R_C HV4.out).1 bel) (R_C HV4.out).2 (Kd.C_below (R_C HV1.out).1 bel) (R_C HV1.out).2).mono ?_); rintro r w5 ⟨v5, rfl, hv5, b5⟩; obtain ⟨A5, c5, rfl⟩ := Kd.R_slice hv5; have HV5 := Lib.hid hv5; clear hv5; obtain ⟨hc5, hf5⟩ := bcell b5; have hz5 := below_size b5; (try simp at hz5); have zz5_0 : w.heap.size < w5.heap.size := (by omega); have zz5_1 : w.heap.size + 1 < w5.heap.size := (by omega); have zz5_2 : w.heap.size + 1 + 1 < w5.heap.size := (by omega)))
    go_region
    go_wp2_with fail
    all_goals exact bodyPost_ret (v := .tuple #[.slice A5 (ofN R).length c5, .int .i64 (L + (q : Int)), .bool cb]) (by first | (simp [results, Tryd.results107, go_sem, *]; done) | (simp [results, Tryd.results107, go_sem, *]; exact e10)) rfl ⟨_, rfl, Kd.R_lower HV5.out (by first | omega | (simp; done) | (simp; omega)), bel⟩
end Go.Proofs.YtiplbpfdkcddlaaDoor

set_option linter.unusedSimpArgs false
set_option linter.unusedVariables false
set_option linter.unnecessarySimpa false
namespace Go.Proofs.YtiplbpfdkcddlaaDoor
open Go.RowKit Go.Proofs.YtiplbpfdkcddlaaDoorW.PrintWords Go.Proofs.YtiplbpfdkcddlaaDoorW.PrintLast Go.Proofs.YtiplbpfdkcddlaaDoorW.PrintMore Go.Proofs.YtiplbpfdkcddlaaDoor.NL
set_option maxRecDepth 100000
set_option exponentiation.threshold 33000

theorem u64_mask (i : Nat) (hi : i ≤ 64) {x : Nat} (hx : x < 18446744073709551616) : bits .and .u64 (x : Int) (2 ^ i - 1) = ((x % 2 ^ i : Nat) : Int) := by
  have := bits_mask .u64 64 (by decide) (fun n a b => by rw [IntKind.wrap_u64]; omega) i hi (x : Int) (by omega) (by omega)
  rw [this, Int.natCast_emod]; simp
/-- The first two bits of the exponent, and the first digit. -/
def decU (G wn : Nat) : Nat := if G / 2 ^ (wn + 3) = 3 then G / 2 ^ (wn + 1) % 4 else G / 2 ^ (wn + 3)
def decD (G wn : Nat) : Nat := if G / 2 ^ (wn + 3) = 3 then 8 + G / 2 ^ wn % 2 else G / 2 ^ wn % 8
def decE (G wn : Nat) : Nat := decU G wn * 2 ^ wn + G % 2 ^ wn
theorem cast_div (G e : Nat) : ((G : Int) / 2 ^ e) = ((G / 2 ^ e : Nat) : Int) := by rw [Int.natCast_ediv]; simp
theorem decE_lt {G wn : Nat} (hG : G < 2 ^ (wn + 5)) : decU G wn ≤ 3 ∧ decD G wn ≤ 9 ∧ decE G wn < 4 * 2 ^ wn := by
  have hp := Nat.two_pow_pos wn
  have e5 : 2 ^ (wn + 5) = 4 * 2 ^ (wn + 3) := by rw [show wn + 5 = (wn + 3) + 2 by omega, Nat.pow_add, Nat.mul_comm]
  have h1 : G / 2 ^ (wn + 3) < 4 := Nat.div_lt_of_lt_mul (by rw [Nat.mul_comm]; omega)
  have h2 : decU G wn ≤ 3 := by unfold decU; split <;> omega
  have h3 : G % 2 ^ wn < 2 ^ wn := Nat.mod_lt _ hp
  have h4 : decU G wn * 2 ^ wn ≤ 3 * 2 ^ wn := Nat.mul_le_mul_right _ h2
  refine ⟨h2, by unfold decD; split <;> omega, ?_⟩
  unfold decE; omega
def NumP (R : Nat) (ex : Int) (cb : Bool) (w : World) (r : Ending) (w' : World) : Prop := ∃ v, r = .returned (.tuple #[v, .int .i64 ex, .bool cb]) ∧ Kd.R (Kd.int .u32) 46 w' w.heap.size (fun _ => True) v (ofN R) ∧ Below w.heap.size w w'
theorem tnum_any {G wn T k p1 : Nat} {hi lo P L H : Int} (w : World) (hw : Wd T hi lo) (hk : k ≤ 11) (hwn : wn ≤ 12) (hG : G < 2 ^ (wn + 5)) (hp1 : 0 < p1 ∧ p1 ≤ 33) (hP : P = (p1 : Int) + 1) (hL : -100000 ≤ L ∧ L ≤ 0) :
    Calls Tryd.prog 107 #[.agg #[], fV P L H (wn : Nat) (10 * (k : Int)), .int .u64 (G : Nat), wV hi lo] w (NumP (decD G wn * 10 ^ p1 + payV T k) (L + (decE G wn : Nat)) (payC T k) w) := by
  obtain ⟨d1, d2, d3⟩ := decE_lt hG
  have hpw : 2 ^ wn ≤ 2 ^ 12 := Nat.pow_le_pow_right (by decide) hwn
  have hG17 : G < 2 ^ 17 := Nat.lt_of_lt_of_le hG (Nat.pow_le_pow_right (by decide) (by omega))
  have h12 : (2 : Nat) ^ 12 = 4096 := by decide
  have h17 : (2 : Nat) ^ 17 = 131072 := by decide
  have hpc : (((2 ^ wn : Nat) : Int)) = (2 : Int) ^ wn := by simp
  have hP1 : wrap64 (P - 1) = (p1 : Nat) := by rw [hP, w64e (by omega) (by omega)]; omega
  have hP2 : IntKind.i64.wrap (P - 1) = (p1 : Nat) := by rw [hP, IntKind.wrap_i64]; omega
  have hpay := payV_lt k T
  have hx := pay_small hpay hk
  have hten : 10 ^ p1 < 2 ^ 120 := by
    have h1 : 10 ^ p1 ≤ 10 ^ 33 := Nat.pow_le_pow_right (by decide) hp1.2
    have h2 : 10 ^ 33 < 2 ^ 120 := by decide +kernel
    omega
  have hQ : decD G wn * 10 ^ p1 < 2 ^ 130 := by
    have h1 : decD G wn * 10 ^ p1 ≤ 9 * 10 ^ p1 := Nat.mul_le_mul_right _ d2
    have h2 : 9 * 2 ^ 120 < 2 ^ 130 := by decide +kernel
    omega
  have b239 : (2 : Nat) ^ 130 < 2 ^ 239 := Nat.pow_lt_pow_right (by decide) (by decide)
  have b240 : (2 : Nat) ^ 120 < 2 ^ 239 := Nat.pow_lt_pow_right (by decide) (by decide)
  have b241 : (2 : Nat) ^ 239 < 2 ^ 240 := Nat.pow_lt_pow_right (by decide) (by decide)
  have b10 : (9 : Nat) < 2 ^ 120 := by decide
  have e6 : IntKind.u64.wrap ((decU G wn : Int) * 2 ^ wn) = ((decU G wn * 2 ^ wn : Nat) : Int) := by
    have h4 : decU G wn * 2 ^ wn ≤ 3 * 2 ^ wn := Nat.mul_le_mul_right _ d1
    rw [← hpc, ← Int.natCast_mul, IntKind.wrap_u64]; omega
  have e7 : IntKind.u64.wrap (2 ^ wn) = (2 : Int) ^ wn := by rw [← hpc, IntKind.wrap_u64]; omega
  have e8 : IntKind.u64.wrap ((2 : Int) ^ wn - 1) = ((2 ^ wn - 1 : Nat) : Int) := by
    have := Nat.two_pow_pos wn
    rw [← hpc, IntKind.wrap_u64]; omega
  have e9 : bits .and .u64 (G : Int) ((2 ^ wn - 1 : Nat) : Int) = ((G % 2 ^ wn : Nat) : Int) := by
    have h1 : ((2 ^ wn - 1 : Nat) : Int) = (2 : Int) ^ wn - 1 := by have := Nat.two_pow_pos wn; rw [← hpc]; omega
    rw [h1]; exact u64_mask wn (by omega) (by omega)
  have e10 : wrap64 (L + wrap64 (bits .or .u64 ((decU G wn : Int) * 2 ^ wn) ((G : Int) % 2 ^ wn))) = L + ((decE G wn : Nat) : Int) := by
    have h1 : ((decU G wn : Int) * 2 ^ wn) = ((decU G wn * 2 ^ wn : Nat) : Int) := by rw [← hpc, Int.natCast_mul]
    have h2 : ((G : Int) % 2 ^ wn) = ((G % 2 ^ wn : Nat) : Int) := by rw [← hpc, Int.natCast_emod]
    have h4 : decU G wn * 2 ^ wn ≤ 3 * 2 ^ wn := Nat.mul_le_mul_right _ d1
    have h5 : G % 2 ^ wn < 2 ^ wn := Nat.mod_lt _ (Nat.two_pow_pos wn)
    rw [h1, h2, or_dis (k := wn) (by omega) (by omega) (Nat.mul_mod_left _ _) h5]
    show wrap64 (L + wrap64 ((decE G wn : Nat) : Int)) = _
    rw [w64e (n := ((decE G wn : Nat) : Int)) (by omega) (by omega), w64e (n := L + ((decE G wn : Nat) : Int)) (by omega) (by omega)]
  have HPay : Hid (∀ w', Calls Tryd.prog 108 #[.agg #[], fV P L H (wn : Nat) (10 * (k : Int)), wV hi lo] w' (PayP (payV T k) (payC T k) w')) := Lib.hid fun w' => by
    have := tpay_any (P := P) (L := L) (H := H) (W := (wn : Nat)) w' hw hk
    rwa [Int.natCast_mul] at this
  have HFu : Hid (∀ w', Calls Tryd.prog 104 #[.int .u64 (decD G wn : Nat)] w' (Gives (decD G wn) w')) := Lib.hid fun w' => nFromUint_any _ w' (by omega) (by omega)
  have HPw := Lib.hid fun w' => dpower_any (e := p1) w' (by omega) hp1.1
  have HMu := Lib.hid fun A n1 c A' n' c' w' (g1 : Kd.C (Kd.int .u32) w' A n1 (ofN (decD G wn))) (g2 : n1 ≤ c) (g3 : Kd.C (Kd.int .u32) w' A' n' (ofN (10 ^ p1))) (g4 : n' ≤ c') => n_mul w' g1 g2 g3 g4 (by omega) (by omega)
  have HAd := Lib.hid fun A n1 c A' n' c' w' (g1 : Kd.C (Kd.int .u32) w' A n1 (ofN (decD G wn * 10 ^ p1))) (g2 : n1 ≤ c) (g3 : Kd.C (Kd.int .u32) w' A' n' (ofN (payV T k))) (g4 : n' ≤ c') => n_add w' g1 g2 g3 g4 (by omega) (by omega)
  by_cases hu : G / 2 ^ (wn + 3) = 3
  · have hU : decU G wn = G / 2 ^ (wn + 1) % 4 := by unfold decU; rw [if_pos hu]
    have hD : decD G wn = 8 + G / 2 ^ wn % 2 := by unfold decD; rw [if_pos hu]
    have f3 : bits .and .u64 ((G : Int) / 2 ^ (wn + 1)) 3 = (decU G wn : Nat) := by
      rw [cast_div, hU]; exact u64_mask 2 (by decide) (Nat.lt_of_le_of_lt (Nat.div_le_self _ _) (by omega))
    have f4 : bits .and .u64 ((G : Int) / 2 ^ wn) 1 = ((G / 2 ^ wn % 2 : Nat) : Int) := by
      rw [cast_div]; exact u64_mask 1 (by decide) (Nat.lt_of_le_of_lt (Nat.div_le_self _ _) (by omega))
    have f5 : bits .or .u64 8 ((G / 2 ^ wn % 2 : Nat) : Int) = (decD G wn : Nat) := by
      rw [hD]; exact or_dis (a := 8) (k := 3) (by omega) (by omega) (by decide) (by omega)
    exact tnum_b w hP1 hP2 hwn (by rw [cast_div, hu]; rfl) f3 f4 f5 e6 e7 e8 e9 e10 HPay HFu HPw HMu HAd
  · have hU : decU G wn = G / 2 ^ (wn + 3) := by unfold decU; rw [if_neg hu]
    have hD : decD G wn = G / 2 ^ wn % 8 := by unfold decD; rw [if_neg hu]
    exact tnum_a w hP1 hP2 hwn (by rw [cast_div, hU]) (beq_eq_false_iff_ne.mpr (by rw [hU]; exact fun h => hu (by exact_mod_cast h))) (by rw [cast_div, hD]; exact u64_mask 3 (by decide) (Nat.lt_of_le_of_lt (Nat.div_le_self _ _) (by omega))) e6 e7 e8 e9 e10 HPay HFu HPw HMu HAd
end Go.Proofs.YtiplbpfdkcddlaaDoor

set_option linter.unusedSimpArgs false
set_option linter.unusedVariables false
set_option linter.unnecessarySimpa false
namespace Go.Proofs.YtiplbpfdkcddlaaDoor
open Go.RowKit Go.Proofs.YtiplbpfdkcddlaaDoorW.PrintWords Go.Proofs.YtiplbpfdkcddlaaDoorW.PrintLast Go.Proofs.YtiplbpfdkcddlaaDoorW.PrintMore Go.Proofs.YtiplbpfdkcddlaaDoor.NL
set_option maxRecDepth 100000
set_option exponentiation.threshold 33000

theorem enc_tens (w : World) : Calls Tryd.prog 18 #[.int .i64 1] w fun r w' => r = .returned (.iface 83 (.agg #[])) ∧ Below w.heap.size w w' := by
  go_enter Tryd.func18, Tryd.ntmps18
  go_wp2
  go_ret
  exact ⟨rfl, bel⟩
theorem enc_plain (w : World) : Calls Tryd.prog 18 #[.int .i64 2] w fun r w' => r = .returned (.iface 84 (.agg #[])) ∧ Below w.heap.size w w' := by
  go_enter Tryd.func18, Tryd.ntmps18
  go_wp2
  go_ret
  exact ⟨rfl, bel⟩
theorem enc_none {e : Int} (w : World) (h1 : e ≠ 1) (h2 : e ≠ 2) : Calls Tryd.prog 18 #[.int .i64 e] w fun r w' => r = .returned .nilIface ∧ Below w.heap.size w w' := by
  have d1 : (e == 1) = false := beq_eq_false_iff_ne.mpr h1
  have d2 : (e == 2) = false := beq_eq_false_iff_ne.mpr h2
  go_enter Tryd.func18, Tryd.ntmps18
  go_wp2
  go_ret
  exact ⟨rfl, bel⟩
theorem field_lo : ∀ (hi lo : Int) (w : World), (Instr.field 59 (wV hi lo) 1).run Tryd.prog w = .ok (.int .u64 lo) w := fun _ _ _ => by kernel_rfl
set_option maxHeartbeats 2000000 in
theorem fld_any {N g from_ many : Nat} {hi lo : Int} (w : World) (hw : Wd N hi lo) (hf : from_ ≤ 128) (hm : many ≤ 63) (h0 : w.cell? ⟨g, 0, none⟩ = some (.int .u64 hi)) (h1 : w.cell? ⟨g, 1, none⟩ = some (.int .u64 lo)) :
    Calls Tryd.prog 24 #[.int .i64 from_, .int .i64 many, .pointer (some ⟨g, 0, none⟩)] w fun r w' => r = .returned (.int .u64 (N / 2 ^ from_ % 2 ^ many : Nat)) ∧ Below w.heap.size w w' := by
  have HR := Lib.hid fun w' => wright_any from_ w' hw hf
  have HL := Lib.hid fun hi lo w' (h : Hid (Wd (N / 2 ^ from_) hi lo)) => wlow_any many w' h.out (by omega)
  have hlt : N / 2 ^ from_ % 2 ^ many < 2 ^ 64 := Nat.lt_of_lt_of_le (Nat.mod_lt _ (Nat.two_pow_pos _)) (Nat.pow_le_pow_right (by decide) (by omega))
  have hfl := field_lo
  generalize N / 2 ^ from_ = M at *
  generalize M % 2 ^ many = R at *
  clear hw
  go_enter Tryd.func24, Tryd.ntmps24
  go_wp2_with (first | fail | (go_at_call 25; (with_reducible refine (HR.out _).mono ?_); rintro r w1 ⟨hi1, lo1, rfl, hw1, b1⟩) | (go_at_call 23; (with_reducible refine (HL.out _ _ _ hw1).mono ?_); rintro r w2 ⟨hi2, lo2, rfl, hw2, b2⟩; obtain rfl : lo2 = (R : Int) := wd_lo hw2.out hlt))
  all_goals
    go_ret
    exact ⟨rfl, bel⟩
end Go.Proofs.YtiplbpfdkcddlaaDoor

set_option linter.unusedSimpArgs false
set_option linter.unusedVariables false
set_option linter.unnecessarySimpa false
namespace Go.Proofs.YtiplbpfdkcddlaaDoor
open Go.RowKit Go.Proofs.YtiplbpfdkcddlaaDoorW.PrintWords Go.Proofs.YtiplbpfdkcddlaaDoorW.PrintLast Go.Proofs.YtiplbpfdkcddlaaDoorW.PrintMore Go.Proofs.YtiplbpfdkcddlaaDoor.NL
set_option maxRecDepth 100000
set_option exponentiation.threshold 33000

theorem eqWd (d : Nat) (w : World) (x0 y0 x1 y1 : Int) :
    (Op.equalIn (d + 2) 59 (.agg #[.int .u64 x0, .int .u64 x1]) (.agg #[.int .u64 y0, .int .u64 y1])).run Tryd.prog w = .ok (x0 == y0 && (x1 == y1)) w := by
  refine eqA_of Tryd.underlying59 (by kernel_rfl) ?_
  refine eqf_cons (by rfl) (by go_simp; rfl) (by go_simp; rfl) (by go_simp) ?_
  exact eqf_last (by rfl) (by go_simp; rfl) (by go_simp; rfl) (by go_simp)
theorem Chg.refl0 (w : World) (S : Nat → Prop) : Chg w w S := Chg.of_below (Below.refl _ _)
theorem chg2 {w w' : World} {g g2 : Nat} (h : Chg w w' (fun k => k = g ∨ k = g2) := by repeat (first | with_reducible exact Chg.refl0 _ _ | ((refine Chg.setCell ?_ ?hpp _); (case hpp => first | exact .inl rfl | exact .inr rfl)))) : Chg w w' (fun k => k = g ∨ k = g2) := h
theorem R_chg {w1 w2 : World} {base : Nat} {v : Value} {xs : List Int} {S : Nat → Prop} (h : Kd.R (Kd.int .u32) 46 w1 base (fun _ => True) v xs) (hc : Chg w1 w2 S) (hS : ∀ k, base ≤ k → ¬ S k) : Kd.R (Kd.int .u32) 46 w2 base (fun _ => True) v xs :=
  Kd.R_mono (Kd.R_step (Kd.R_bound h) (fun k hk hlt => hc.block k hlt (hS k hk.2.1))) (fun _ _ => trivial)
set_option maxHeartbeats 16000000 in
theorem dec_fin {fm enc P L H hi lo ex : Int} {wn tn s T G sg R : Nat} {ng cb : Bool} {te : TypeId} {v : Value} {gnum : Nat} (w : World)
    (hT : Tab w)
    (HFo : Hid (∀ w', Tab w' → Calls Tryd.prog 19 #[.int .i64 fm] w' fun r w'' => r = .returned (.tuple #[fV P L H (wn : Nat) (tn : Nat), .bool true]) ∧ Below w'.heap.size w' w''))
    (HEn : Hid (∀ w', Calls Tryd.prog 18 #[.int .i64 enc] w' fun r w'' => r = .returned (.iface te v) ∧ Below w'.heap.size w' w''))
    (hs1 : Hid (s = 1 + wn + 5 + tn)) (hwn : wn ≤ 12) (htn : tn ≤ 110)
    (HLs : Hid (∀ w', Calls Tryd.prog 23 #[wV hi lo, .int .i64 (s : Nat)] w' fun r w'' => r = .returned (wV hi lo) ∧ Below w'.heap.size w' w''))
    (HF1 : Hid (∀ g w', w'.cell? ⟨g, 0, none⟩ = some (.int .u64 hi) → w'.cell? ⟨g, 1, none⟩ = some (.int .u64 lo) → Calls Tryd.prog 24 #[.int .i64 (tn : Nat), .int .i64 ((wn : Int) + 5), .pointer (some ⟨g, 0, none⟩)] w' fun r w'' => r = .returned (.int .u64 (G : Nat)) ∧ Below w'.heap.size w' w''))
    (HLt : Hid (∀ w', Calls Tryd.prog 23 #[wV hi lo, .int .i64 (tn : Nat)] w' (GivesW T w')))
    (HF2 : Hid (∀ g w', w'.cell? ⟨g, 0, none⟩ = some (.int .u64 hi) → w'.cell? ⟨g, 1, none⟩ = some (.int .u64 lo) → Calls Tryd.prog 24 #[.int .i64 ((s : Int) - 1), .int .i64 1, .pointer (some ⟨g, 0, none⟩)] w' fun r w'' => r = .returned (.int .u64 (sg : Nat)) ∧ Below w'.heap.size w' w''))
    (hng : ((sg : Int) == 1) = ng)
    (hc30 : ((G : Int) / 2 ^ wn == 30) = false) (hc31 : ((G : Int) / 2 ^ wn == 31) = false)
    (hm : ∀ w', (method 254 te v "soroban/decimal.number").run Tryd.prog w' = .ok (gnum, v) w')
    (ef : ∀ args w', (callFunc gnum args).run Tryd.prog w' = .ok (.enter gnum args) w')
    (HNum : Hid (∀ thi tlo w', Hid (Wd T thi tlo) → Calls Tryd.prog gnum #[v, fV P L H (wn : Nat) (tn : Nat), .int .u64 (G : Nat), wV thi tlo] w' (NumP R ex cb w'))) :
    Calls Tryd.prog 10 #[.int .i64 fm, .int .i64 enc, .agg #[.int .u64 hi, .int .u64 lo]] w fun r w' => ∃ u, r = .returned (.tuple #[.agg #[.int .i64 fm, .int .i64 1, .bool ng, u, .int .i64 ex], .bool cb, .int .i64 0]) ∧ Kd.R (Kd.int .u32) 46 w' w.heap.size (fun _ => True) u (ofN R) ∧ Below w.heap.size w w' := by
  have HT := Lib.hid hT
  clear hT
  have e5 : IntKind.i64.wrap ((wn : Int) + 5) = (wn : Int) + 5 := by rw [IntKind.wrap_i64]; omega
  have es : IntKind.i64.wrap ((s : Int) - 1) = (s : Int) - 1 := by have := hs1.out; rw [IntKind.wrap_i64]; omega
  have hEq := fun d w => eqWd d w hi hi lo lo
  go_enter Tryd.func10, Tryd.ntmps10
  go_upto_region 4 with (first | fail | (go_at_call 19; (with_reducible refine (HFo.out _ (HT.out.below bel)).mono ?_); rintro r w1 ⟨rfl, b1⟩; obtain ⟨hc1, hf1⟩ := bcell b1; have hz1 := below_size b1; (try simp at hz1); have zz1_0 : w.heap.size < w1.heap.size := (by omega); have zz1_1 : w.heap.size + 1 < w1.heap.size := (by omega)) | (go_at_call 18; (with_reducible refine (HEn.out _).mono ?_); rintro r w2 ⟨rfl, b2⟩; obtain ⟨hc2, hf2⟩ := bcell b2; have hz2 := below_size b2; (try simp at hz2); have zz2_0 : w.heap.size < w2.heap.size := (by omega); have zz2_1 : w.heap.size + 1 < w2.heap.size := (by omega); have zz2_2 : w1.heap.size < w2.heap.size := (by omega)))
  go_cut [6, 7, 8, 9, 10, 11, 12, 13] (fun v_6 v_7 v_8 v_9 v_10 v_11 v_12 v_13 wx => ∃ (p9 p12 : Nat), v_6 = .pointer (some ⟨(w.heap.size + 1), 0, none⟩) ∧ BlkIs wx (w.heap.size + 1) 34 (· = #[.int .i64 0, .int .i64 0, .bool false, .slice none 0 0, .int .i64 0]) ∧ v_7 = .bool false ∧ v_8 = .int .i64 0 ∧ v_9 = .pointer (some ⟨p9, 0, none⟩) ∧ BlkIs wx p9 55 (· = #[.int .i64 P, .int .i64 L, .int .i64 H, .int .i64 (wn : Nat), .int .i64 (tn : Nat)]) ∧ v_10 = .bool true ∧ v_11 = .iface te v ∧ v_12 = .pointer (some ⟨p12, 0, none⟩) ∧ BlkIs wx p12 59 (· = #[.int .u64 hi, .int .u64 lo]) ∧ v_13 = .int .i64 (s : Nat) ∧ w.heap.size + 1 < p9 ∧ Below w.heap.size w wx)
  case first =>
    go_wp2_with (first | fail)
    go_meet
    exact ⟨_, _, rfl, blk0, (by first | rfl | (simp; done)), (by first | rfl | (simp; done)), rfl, blk0, (by first | rfl | (simp; done)), (by first | rfl | (simp; done)), rfl, blk0, (by first | rfl | (simp; done) | (rw [hs1.out]; simp; done) | (rw [hs1.out]; simp; omega)), (by first | assumption | omega | (simp; done) | (simp; omega)), bel⟩
  case rest =>
    skip
    obtain ⟨p9, p12, rfl, HB6, rfl, rfl, rfl, HB9, rfl, rfl, rfl, HB12, rfl, hp9, hbw⟩ := hcut
    obtain ⟨cs6, hbk6, rfl⟩ := HB6
    obtain ⟨cs9, hbk9, rfl⟩ := HB9
    obtain ⟨cs12, hbk12, rfl⟩ := HB12
    have f6_0 : wc.cell? ⟨(w.heap.size + 1), 0, none⟩ = some (.int .i64 0) := by simpa using blk_cell hbk6 0
    have f6_1 : wc.cell? ⟨(w.heap.size + 1), 1, none⟩ = some (.int .i64 0) := by simpa using blk_cell hbk6 1
    have f6_2 : wc.cell? ⟨(w.heap.size + 1), 2, none⟩ = some (.bool false) := by simpa using blk_cell hbk6 2
    have f6_3 : wc.cell? ⟨(w.heap.size + 1), 3, none⟩ = some (.slice none 0 0) := by simpa using blk_cell hbk6 3
    have f6_4 : wc.cell? ⟨(w.heap.size + 1), 4, none⟩ = some (.int .i64 0) := by simpa using blk_cell hbk6 4
    have f6_z : (w.heap.size + 1) < wc.heap.size := blk_lt hbk6
    have f9_0 : wc.cell? ⟨p9, 0, none⟩ = some (.int .i64 P) := by simpa using blk_cell hbk9 0
    have f9_1 : wc.cell? ⟨p9, 1, none⟩ = some (.int .i64 L) := by simpa using blk_cell hbk9 1
    have f9_2 : wc.cell? ⟨p9, 2, none⟩ = some (.int .i64 H) := by simpa using blk_cell hbk9 2
    have f9_3 : wc.cell? ⟨p9, 3, none⟩ = some (.int .i64 (wn : Nat)) := by simpa using blk_cell hbk9 3
    have f9_4 : wc.cell? ⟨p9, 4, none⟩ = some (.int .i64 (tn : Nat)) := by simpa using blk_cell hbk9 4
    have f9_z : p9 < wc.heap.size := blk_lt hbk9
    have f12_0 : wc.cell? ⟨p12, 0, none⟩ = some (.int .u64 hi) := by simpa using blk_cell hbk12 0
    have f12_1 : wc.cell? ⟨p12, 1, none⟩ = some (.int .u64 lo) := by simpa using blk_cell hbk12 1
    have f12_z : p12 < wc.heap.size := blk_lt hbk12
    go_wp2_with fail
    go_region_held3 (fun w' => Below (wc).heap.size (wc) w' ∧ ∀ b o, b < (wc).heap.size → w'.cell? ⟨b, o, none⟩ = (wc).cell? ⟨b, o, none⟩) (first | ((try go_split_ands); refine below_S ?_; ((repeat (first | with_reducible assumption | with_reducible exact Below.refl _ _ | with_reducible refine below_alloc ?_ _ | with_reducible refine pw_below_drewN ?_ _ | with_reducible refine below_drew1 ?_ | ((with_reducible refine below_set ?_ ?hle); (case hle => first | (simp; done) | omega | (simp; omega))) | with_reducible refine below_step ?_ (by with_reducible assumption))); done))) (first | (go_at_call 23; (with_reducible refine (HLs.out _).mono ?_); rintro r w10 ⟨rfl, b10⟩; obtain ⟨hc10, hf10⟩ := bcell b10; (try simp only [dr_size, dr_cell] at hc10); (try simp only [dr_size, dr_frozen] at hf10); have hz10 := below_size b10; (try simp at hz10); have zz10_0 : w.heap.size + 1 < w10.heap.size := (by omega); have zz10_1 : p9 < w10.heap.size := (by omega); have zz10_2 : p12 < w10.heap.size := (by omega)))
    all_goals
      go_upto_region 7 with fail
      go_cut [6, 7, 8, 9, 11, 12, 13, 14] (fun v_6 v_7 v_8 v_9 v_11 v_12 v_13 v_14 wx => ∃ (p9 p12 : Nat), v_6 = .pointer (some ⟨(w.heap.size + 1), 0, none⟩) ∧ BlkIs wx (w.heap.size + 1) 34 (· = #[.int .i64 0, .int .i64 0, .bool false, .slice none 0 0, .int .i64 0]) ∧ v_7 = .bool false ∧ v_8 = .int .i64 0 ∧ v_9 = .pointer (some ⟨p9, 0, none⟩) ∧ BlkIs wx p9 55 (· = #[.int .i64 P, .int .i64 L, .int .i64 H, .int .i64 (wn : Nat), .int .i64 (tn : Nat)]) ∧ v_11 = .iface te v ∧ v_12 = .pointer (some ⟨p12, 0, none⟩) ∧ BlkIs wx p12 59 (· = #[.int .u64 hi, .int .u64 lo]) ∧ v_13 = .int .i64 (s : Nat) ∧ v_14 = .func (.func 24) #[] #[.pointer (some ⟨p12, 0, none⟩)] ∧ w.heap.size + 1 < p9 ∧ Below w.heap.size w wx)
      case first =>
        go_wp2_with (first | fail)
        go_meet
        exact ⟨_, _, rfl, blk1, (by first | rfl | (simp; done)), (by first | rfl | (simp; done)), rfl, blk1, (by first | rfl | (simp; done)), rfl, blk1, (by first | rfl | (simp; done)), (by first | rfl | (simp; done)), (by first | assumption | omega | (simp; done) | (simp; omega)), bel⟩
      case rest =>
        skip
        clear f6_0 f6_1 f6_2 f6_3 f6_4 f6_z hbk6 f9_0 f9_1 f9_2 f9_3 f9_4 f9_z hbk9 f12_0 f12_1 f12_z hbk12
        obtain ⟨p9, p12, rfl, HB6, rfl, rfl, rfl, HB9, rfl, rfl, HB12, rfl, rfl, hp9, hbw⟩ := hcut
        obtain ⟨cs6, hbk6, rfl⟩ := HB6
        obtain ⟨cs9, hbk9, rfl⟩ := HB9
        obtain ⟨cs12, hbk12, rfl⟩ := HB12
        have f6_0 : wc.cell? ⟨(w.heap.size + 1), 0, none⟩ = some (.int .i64 0) := by simpa using blk_cell hbk6 0
        have f6_1 : wc.cell? ⟨(w.heap.size + 1), 1, none⟩ = some (.int .i64 0) := by simpa using blk_cell hbk6 1
        have f6_2 : wc.cell? ⟨(w.heap.size + 1), 2, none⟩ = some (.bool false) := by simpa using blk_cell hbk6 2
        have f6_3 : wc.cell? ⟨(w.heap.size + 1), 3, none⟩ = some (.slice none 0 0) := by simpa using blk_cell hbk6 3
        have f6_4 : wc.cell? ⟨(w.heap.size + 1), 4, none⟩ = some (.int .i64 0) := by simpa using blk_cell hbk6 4
        have f6_z : (w.heap.size + 1) < wc.heap.size := blk_lt hbk6
        have f9_0 : wc.cell? ⟨p9, 0, none⟩ = some (.int .i64 P) := by simpa using blk_cell hbk9 0
        have f9_1 : wc.cell? ⟨p9, 1, none⟩ = some (.int .i64 L) := by simpa using blk_cell hbk9 1
        have f9_2 : wc.cell? ⟨p9, 2, none⟩ = some (.int .i64 H) := by simpa using blk_cell hbk9 2
        have f9_3 : wc.cell? ⟨p9, 3, none⟩ = some (.int .i64 (wn : Nat)) := by simpa using blk_cell hbk9 3
        have f9_4 : wc.cell? ⟨p9, 4, none⟩ = some (.int .i64 (tn : Nat)) := by simpa using blk_cell hbk9 4
        have f9_z : p9 < wc.heap.size := blk_lt hbk9
        have f12_0 : wc.cell? ⟨p12, 0, none⟩ = some (.int .u64 hi) := by simpa using blk_cell hbk12 0
        have f12_1 : wc.cell? ⟨p12, 1, none⟩ = some (.int .u64 lo) := by simpa using blk_cell hbk12 1
        have f12_z : p12 < wc.heap.size := blk_lt hbk12
        go_wp2_with fail
        go_region_held3 (fun w' => Below (wc).heap.size (wc) w' ∧ ∀ b o, b < (wc).heap.size → w'.cell? ⟨b, o, none⟩ = (wc).cell? ⟨b, o, none⟩) (first | ((try go_split_ands); refine below_S ?_; ((repeat (first | with_reducible assumption | with_reducible exact Below.refl _ _ | with_reducible refine below_alloc ?_ _ | with_reducible refine pw_below_drewN ?_ _ | with_reducible refine below_drew1 ?_ | ((with_reducible refine below_set ?_ ?hle); (case hle => first | (simp; done) | omega | (simp; omega))) | with_reducible refine below_step ?_ (by with_reducible assumption))); done))) (first | ((try rw [e5]); (try rw [es]); (with_reducible refine (HF1.out _ _ (by first | exact f12_0 | exact kp_below f12_0 bel) (by first | exact f12_1 | exact kp_below f12_1 bel)).mono ?_); rintro r w20 ⟨rfl, b20⟩; obtain ⟨hc20, hf20⟩ := bcell b20; (try simp only [dr_size, dr_cell] at hc20); (try simp only [dr_size, dr_frozen] at hf20); have hz20 := below_size b20; (try simp at hz20); have zz20_0 : w.heap.size + 1 < w20.heap.size := (by omega); have zz20_1 : p9 < w20.heap.size := (by omega); have zz20_2 : p12 < w20.heap.size := (by omega); (try have zA20 : wc.heap.size < w20.heap.size := (by omega))) | (go_at_call 23; (with_reducible refine (HLt.out _).mono ?_); rintro r w21 ⟨hi21, lo21, rfl, hw21, b21⟩; obtain ⟨hc21, hf21⟩ := bcell b21; (try simp only [dr_size, dr_cell] at hc21); (try simp only [dr_size, dr_frozen] at hf21); have hz21 := below_size b21; (try simp at hz21); have zz21_0 : w.heap.size + 1 < w21.heap.size := (by omega); have zz21_1 : p9 < w21.heap.size := (by omega); have zz21_2 : p12 < w21.heap.size := (by omega); (try have zA21 : wc.heap.size < w21.heap.size := (by omega)); (try have zB21 : w20.heap.size < w21.heap.size := (by omega)); (try have zC21 : wc.heap.size < w20.heap.size := (by omega))))
        all_goals
          go_upto_region 9 with (first | fail | ((try rw [e5]); (try rw [es]); (with_reducible refine (HF2.out _ _ (by first | exact f12_0 | exact kp_below f12_0 bel) (by first | exact f12_1 | exact kp_below f12_1 bel)).mono ?_); rintro r w30 ⟨rfl, b30⟩; obtain ⟨hc30, hf30⟩ := bcell b30; have hz30 := below_size b30; (try simp at hz30); have zz30_0 : w.heap.size + 1 < w30.heap.size := (by omega); have zz30_1 : p9 < w30.heap.size := (by omega); have zz30_2 : p12 < w30.heap.size := (by omega); (try have zD30 : w21.heap.size < w30.heap.size := (by omega)); (try have zE30 : wc.heap.size < w30.heap.size := (by omega)); (try have zG30 : w20.heap.size < w30.heap.size := (by omega))))
          go_cut [6, 7, 8, 9, 11, 12, 15, 16, 17] (fun v_6 v_7 v_8 v_9 v_11 v_12 v_15 v_16 v_17 wx => ∃ (p9 p12 p16 p17 : Nat), ∃ thi tlo : Int, v_6 = .pointer (some ⟨(w.heap.size + 1), 0, none⟩) ∧ BlkIs wx (w.heap.size + 1) 34 (· = #[.int .i64 0, .int .i64 0, .bool false, .slice none 0 0, .int .i64 0]) ∧ v_7 = .bool false ∧ v_8 = .int .i64 0 ∧ v_9 = .pointer (some ⟨p9, 0, none⟩) ∧ BlkIs wx p9 55 (· = #[.int .i64 P, .int .i64 L, .int .i64 H, .int .i64 (wn : Nat), .int .i64 (tn : Nat)]) ∧ v_11 = .iface te v ∧ v_12 = .pointer (some ⟨p12, 0, none⟩) ∧ BlkIs wx p12 59 (· = #[.int .u64 hi, .int .u64 lo]) ∧ v_15 = .int .u64 (G : Nat) ∧ v_16 = .pointer (some ⟨p16, 0, none⟩) ∧ BlkIs wx p16 59 (· = #[.int .u64 thi, .int .u64 tlo]) ∧ v_17 = .pointer (some ⟨p17, 0, none⟩) ∧ BlkIs wx p17 34 (· = #[.int .i64 fm, .int .i64 0, .bool ng, .slice none 0 0, .int .i64 0]) ∧ w.heap.size + 1 < p9 ∧ p9 < p17 ∧ p16 < p17 ∧ Hid (Wd T thi tlo) ∧ Below w.heap.size w wx)
          case first =>
            go_wp2_with (first | fail | ((try rw [e5]); (try rw [es]); (with_reducible refine (HF2.out _ _ (by first | exact f12_0 | exact kp_below f12_0 bel) (by first | exact f12_1 | exact kp_below f12_1 bel)).mono ?_); rintro r w30 ⟨rfl, b30⟩; obtain ⟨hc30, hf30⟩ := bcell b30; have hz30 := below_size b30; (try simp at hz30); have zz30_0 : w.heap.size + 1 < w30.heap.size := (by omega); have zz30_1 : p9 < w30.heap.size := (by omega); have zz30_2 : p12 < w30.heap.size := (by omega); (try have zD30 : w21.heap.size < w30.heap.size := (by omega)); (try have zE30 : wc.heap.size < w30.heap.size := (by omega)); (try have zG30 : w20.heap.size < w30.heap.size := (by omega))))
            go_meet
            exact ⟨_, _, _, _, _, _, rfl, blk1, (by first | rfl | (simp; done)), (by first | rfl | (simp; done)), rfl, blk1, (by first | rfl | (simp; done)), rfl, blk1, (by first | rfl | (simp; done)), rfl, blk1, rfl, blk1, (by first | assumption | omega | (simp; done) | (simp; omega)), (by first | assumption | omega | (simp; done) | (simp; omega)), (by first | assumption | omega | (simp; done) | (simp; omega)), hw21, bel⟩
          case rest =>
            skip
            clear f6_0 f6_1 f6_2 f6_3 f6_4 f6_z hbk6 f9_0 f9_1 f9_2 f9_3 f9_4 f9_z hbk9 f12_0 f12_1 f12_z hbk12
            obtain ⟨p9, p12, p16, p17, thi, tlo, rfl, HB6, rfl, rfl, rfl, HB9, rfl, rfl, HB12, rfl, rfl, HB16, rfl, HB17, hp9, hp17, hp16, hWT, hbw⟩ := hcut
            obtain ⟨cs6, hbk6, rfl⟩ := HB6
            obtain ⟨cs9, hbk9, rfl⟩ := HB9
            obtain ⟨cs12, hbk12, rfl⟩ := HB12
            obtain ⟨cs16, hbk16, rfl⟩ := HB16
            obtain ⟨cs17, hbk17, rfl⟩ := HB17
            have f6_0 : wc.cell? ⟨(w.heap.size + 1), 0, none⟩ = some (.int .i64 0) := by simpa using blk_cell hbk6 0
            have f6_f0 : wc.frozen? ⟨(w.heap.size + 1), 0, none⟩ = false := blk_frozen hbk6 0
            have f6_1 : wc.cell? ⟨(w.heap.size + 1), 1, none⟩ = some (.int .i64 0) := by simpa using blk_cell hbk6 1
            have f6_f1 : wc.frozen? ⟨(w.heap.size + 1), 1, none⟩ = false := blk_frozen hbk6 1
            have f6_2 : wc.cell? ⟨(w.heap.size + 1), 2, none⟩ = some (.bool false) := by simpa using blk_cell hbk6 2
            have f6_f2 : wc.frozen? ⟨(w.heap.size + 1), 2, none⟩ = false := blk_frozen hbk6 2
            have f6_3 : wc.cell? ⟨(w.heap.size + 1), 3, none⟩ = some (.slice none 0 0) := by simpa using blk_cell hbk6 3
            have f6_f3 : wc.frozen? ⟨(w.heap.size + 1), 3, none⟩ = false := blk_frozen hbk6 3
            have f6_4 : wc.cell? ⟨(w.heap.size + 1), 4, none⟩ = some (.int .i64 0) := by simpa using blk_cell hbk6 4
            have f6_f4 : wc.frozen? ⟨(w.heap.size + 1), 4, none⟩ = false := blk_frozen hbk6 4
            have f6_z : (w.heap.size + 1) < wc.heap.size := blk_lt hbk6
            have f9_0 : wc.cell? ⟨p9, 0, none⟩ = some (.int .i64 P) := by simpa using blk_cell hbk9 0
            have f9_1 : wc.cell? ⟨p9, 1, none⟩ = some (.int .i64 L) := by simpa using blk_cell hbk9 1
            have f9_2 : wc.cell? ⟨p9, 2, none⟩ = some (.int .i64 H) := by simpa using blk_cell hbk9 2
            have f9_3 : wc.cell? ⟨p9, 3, none⟩ = some (.int .i64 (wn : Nat)) := by simpa using blk_cell hbk9 3
            have f9_4 : wc.cell? ⟨p9, 4, none⟩ = some (.int .i64 (tn : Nat)) := by simpa using blk_cell hbk9 4
            have f9_z : p9 < wc.heap.size := blk_lt hbk9
            have f12_0 : wc.cell? ⟨p12, 0, none⟩ = some (.int .u64 hi) := by simpa using blk_cell hbk12 0
            have f12_1 : wc.cell? ⟨p12, 1, none⟩ = some (.int .u64 lo) := by simpa using blk_cell hbk12 1
            have f12_z : p12 < wc.heap.size := blk_lt hbk12
            have f16_0 : wc.cell? ⟨p16, 0, none⟩ = some (.int .u64 thi) := by simpa using blk_cell hbk16 0
            have f16_1 : wc.cell? ⟨p16, 1, none⟩ = some (.int .u64 tlo) := by simpa using blk_cell hbk16 1
            have f16_z : p16 < wc.heap.size := blk_lt hbk16
            have f17_0 : wc.cell? ⟨p17, 0, none⟩ = some (.int .i64 fm) := by simpa using blk_cell hbk17 0
            have f17_f0 : wc.frozen? ⟨p17, 0, none⟩ = false := blk_frozen hbk17 0
            have f17_1 : wc.cell? ⟨p17, 1, none⟩ = some (.int .i64 0) := by simpa using blk_cell hbk17 1
            have f17_f1 : wc.frozen? ⟨p17, 1, none⟩ = false := blk_frozen hbk17 1
            have f17_2 : wc.cell? ⟨p17, 2, none⟩ = some (.bool ng) := by simpa using blk_cell hbk17 2
            have f17_f2 : wc.frozen? ⟨p17, 2, none⟩ = false := blk_frozen hbk17 2
            have f17_3 : wc.cell? ⟨p17, 3, none⟩ = some (.slice none 0 0) := by simpa using blk_cell hbk17 3
            have f17_f3 : wc.frozen? ⟨p17, 3, none⟩ = false := blk_frozen hbk17 3
            have f17_4 : wc.cell? ⟨p17, 4, none⟩ = some (.int .i64 0) := by simpa using blk_cell hbk17 4
            have f17_f4 : wc.frozen? ⟨p17, 4, none⟩ = false := blk_frozen hbk17 4
            have f17_z : p17 < wc.heap.size := blk_lt hbk17
            have q1 : p9 ≠ p17 := by omega
            have q2 : p17 ≠ p9 := by omega
            have q3 : p16 ≠ p17 := by omega
            have q4 : p17 ≠ p16 := by omega
            have q5 : w.heap.size + 1 ≠ p17 := by omega
            have q6 : p17 ≠ w.heap.size + 1 := by omega
            go_wp2_with (first | fail | ((with_reducible refine (HNum.out _ _ _ hWT).mono ?_); rintro r w40 ⟨v40, rfl, hv40, b40⟩; obtain ⟨A40, c40, rfl⟩ := Kd.R_slice hv40; have HV40 := Lib.hid hv40; clear hv40; obtain ⟨hc40, hf40⟩ := bcell b40; have hz40 := below_size b40; (try simp at hz40); have zz40_0 : w.heap.size + 1 < w40.heap.size := (by omega); have zz40_1 : p9 < w40.heap.size := (by omega); have zz40_2 : p12 < w40.heap.size := (by omega); have zz40_3 : p16 < w40.heap.size := (by omega); have zz40_4 : p17 < w40.heap.size := (by omega)))
            all_goals exact bodyPost_ret (v := .tuple #[.agg #[.int .i64 fm, .int .i64 1, .bool ng, .slice A40 (ofN R).length c40, .int .i64 ex], .bool cb, .int .i64 0]) (by simp [results, Tryd.results10, go_sem, *]) rfl ⟨_, rfl, Kd.R_lower (R_chg (S := fun k => k = w.heap.size + 1 ∨ k = p17) HV40.out chg2 (by intro k hk; (try simp at hk ⊢); omega)) (by first | omega | (simp; done) | (simp; omega)), bel⟩
end Go.Proofs.YtiplbpfdkcddlaaDoor

set_option linter.unusedSimpArgs false
set_option linter.unusedVariables false
set_option linter.unnecessarySimpa false
namespace Go.Proofs.YtiplbpfdkcddlaaDoor
open Go.RowKit Go.Proofs.YtiplbpfdkcddlaaDoorW.PrintWords Go.Proofs.YtiplbpfdkcddlaaDoorW.PrintLast Go.Proofs.YtiplbpfdkcddlaaDoorW.PrintMore

/-- All blocks but one are as they were; no cell of that one is frozen that was not. -/
def HeldS (W0 : World) (p : Nat) (w' : World) : Prop := Chg W0 w' (fun k => k = p) ∧ p < W0.heap.size ∧ ∀ o, w'.frozen? ⟨p, o, none⟩ = W0.frozen? ⟨p, o, none⟩
theorem HeldS.refl {W0 : World} {p : Nat} (h : p < W0.heap.size) : HeldS W0 p W0 := ⟨Chg.of_below (Below.refl _ _), h, fun _ => rfl⟩
theorem HeldS.step {W0 w w' : World} {p : Nat} (h : HeldS W0 p w) (hb : Below w.heap.size w w') : HeldS W0 p w' :=
  ⟨⟨hb.os.trans h.1.os, hb.tape.trans h.1.tape, hb.output.trans h.1.output, Nat.le_trans h.1.size hb.size, fun k hk hn => (hb.block k (Nat.lt_of_lt_of_le hk h.1.size)).trans (h.1.block k hk hn)⟩, h.2.1, fun o => ((bcell hb).2 _ _ (Nat.lt_of_lt_of_le h.2.1 h.1.size)).trans (h.2.2 o)⟩
theorem HeldS.alloc {W0 w : World} {p : Nat} {o : Obj} (h : HeldS W0 p w) : HeldS W0 p (w.alloc o) := h.step (below_alloc (Below.refl _ _) _)
theorem HeldS.drew {W0 w : World} {p : Nat} (h : HeldS W0 p w) : HeldS W0 p w.drew := h.step (below_drew1 (Below.refl _ _))
theorem HeldS.drewN {W0 w : World} {p n : Nat} (h : HeldS W0 p w) : HeldS W0 p (w.drewN n) := h.step (pw_below_drewN (Below.refl _ _) _)
theorem HeldS.set {W0 w : World} {p o : Nat} {u : Value} (h : HeldS W0 p w) : HeldS W0 p (w.setCell ⟨p, o, none⟩ u) :=
  ⟨h.1.setCell (p := ⟨p, o, none⟩) rfl u, h.2.1, fun o' => by rw [World.frozen?_setCell]; exact h.2.2 o'⟩
theorem HeldS.fresh {W0 w : World} {p : Nat} {a : Addr} {u : Value} (h : HeldS W0 p w) (ha : W0.heap.size ≤ a.block) : HeldS W0 p (w.setCell a u) :=
  ⟨⟨h.1.os, h.1.tape, h.1.output, by simpa [World.setCell] using h.1.size, fun k hk hn => by rw [Below.heap_setCell _ _ _ _ (by omega)]; exact h.1.block k hk hn⟩, h.2.1, fun o' => by rw [World.frozen?_setCell]; exact h.2.2 o'⟩
theorem held_S {W0 w' : World} {p : Nat} (h : HeldS W0 p w') : HeldS W0 p w' ∧ (∀ b o, b < W0.heap.size → b ≠ p → w'.cell? ⟨b, o, none⟩ = W0.cell? ⟨b, o, none⟩) ∧ ∀ o, w'.frozen? ⟨p, o, none⟩ = W0.frozen? ⟨p, o, none⟩ :=
  ⟨h, fun b o hb hn => by simp only [World.cell?]; rw [h.1.block b hb hn], h.2.2⟩
theorem held_cell {W0 w' : World} {p b o : Nat} {v : Value} (h : HeldS W0 p w') (h0 : W0.cell? ⟨b, o, none⟩ = some v) (hn : b ≠ p) : w'.cell? ⟨b, o, none⟩ = some v := by
  have hb : b < W0.heap.size := by simpa using World.block_lt_of_cell? _ _ h0
  simp only [World.cell?] at h0 ⊢
  rw [h.1.block b hb hn]; exact h0
theorem far_cell {w : World} {p b o k : Nat} {u v : Value} (h : w.cell? ⟨b, o, none⟩ = some v) (hn : b ≠ p) : (w.setCell ⟨p, k, none⟩ u).cell? ⟨b, o, none⟩ = some v := by
  rw [World.cell?_setCell_far _ _ _ _ (by simpa using fun e => hn e.symm)]; exact h
end Go.Proofs.YtiplbpfdkcddlaaDoor
