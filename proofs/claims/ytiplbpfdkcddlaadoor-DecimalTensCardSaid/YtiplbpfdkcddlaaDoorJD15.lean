/- decimal: finite of the packed form: its walk. decimal: payload and number of the binary form: their walks. -/
import Derived.Test.YtiplbpfdkcddlaaDoorJD14
import Derived.Test.YtiplbpfdkcddlaaDoorJD11
import Derived.Test.YtiplbpfdkcddlaaDoorJD13
import Derived.Test.YtiplbpfdkcddlaaDoorJD8
set_option linter.unusedSimpArgs false
set_option linter.unusedVariables false
set_option linter.unnecessarySimpa false
namespace Go.Proofs.YtiplbpfdkcddlaaDoor
open Go.RowKit Go.Proofs.YtiplbpfdkcddlaaDoorW.PrintWords Go.Proofs.YtiplbpfdkcddlaaDoorW.PrintLast Go.Proofs.YtiplbpfdkcddlaaDoorW.PrintMore Go.Proofs.YtiplbpfdkcddlaaDoor.NL
set_option maxRecDepth 100000
set_option exponentiation.threshold 33000
set_option maxHeartbeats 8000000 in
theorem tfin_a {ex P L H : Int} {wn k x Y n R T E G u lw b p1 nl c : Nat} {A : Option Addr} (w : World)
    (hA : Kd.C (Kd.int .u32) w A nl (ofN x)) (hcl : nl ≤ c) (hP1 : wrap64 (P - 1) = (p1 : Nat)) (hP2 : IntKind.i64.wrap (P - 1) = (p1 : Nat)) (hwn : wn ≤ 12)
    (HPw : Hid (∀ w', Calls Tryd.prog 34 #[.int .i64 (p1 : Nat)] w' (NewRow w' (ofN Y))))
    (HDi : Hid (∀ A' n' c' w', Kd.C (Kd.int .u32) w' A nl (ofN x) → Kd.C (Kd.int .u32) w' A' n' (ofN Y) → n' ≤ c' → Calls Tryd.prog 38 #[.slice A nl c, .slice A' n' c'] w' (NumErr2 (ofN n) (ofN R) 0 w')))
    (HTo : Hid (∀ A n' c w', Kd.C (Kd.int .u32) w' A n' (ofN n) → n' ≤ c → Calls Tryd.prog 110 #[.slice A n' c] w' fun e w'' => e = .returned (.tuple #[.int .u64 (n : Nat), .int .i64 0]) ∧ w' = w''))
    (HTr : Hid (∀ A n' c w', Kd.C (Kd.int .u32) w' A n' (ofN R) → n' ≤ c → Calls Tryd.prog 109 #[.agg #[], fV P L H (wn : Nat) (10 * (k : Int)), .slice A n' c] w' (GivesW T w')))
    (hE : IntKind.u64.wrap (IntKind.i64.wrap (ex - L)) = (E : Nat)) (hE2 : IntKind.u64.wrap (wrap64 (ex - L)) = (E : Nat)) (hE3 : IntKind.u64.wrap (ex - L) = (E : Nat)) (hE4 : IntKind.i64.wrap (ex - L) = ex - L) (hE5 : wrap64 (ex - L) = ex - L)
    (e1 : (E : Int) / 2 ^ wn = (u : Nat)) (e7 : IntKind.u64.wrap (2 ^ wn) = (2 : Int) ^ wn) (e8 : IntKind.u64.wrap ((2 : Int) ^ wn - 1) = ((2 ^ wn - 1 : Nat) : Int)) (e9 : bits .and .u64 (E : Int) ((2 ^ wn - 1 : Nat) : Int) = (lw : Nat))
    (hn8 : decide ((n : Int) < 8) = true) (hG : bits .or .u64 (bits .or .u64 (IntKind.u64.wrap ((u : Int) * 2 ^ ((wn : Int) + 3).toNat)) (IntKind.u64.wrap ((n : Int) * 2 ^ wn))) (lw : Nat) = (G : Nat)) :
    Calls Tryd.prog 106 #[.agg #[], fV P L H (wn : Nat) (10 * (k : Int)), .slice A nl c, .int .i64 ex] w (FinP G T w) := by
  have HC := Lib.hid hA
  have HG := Lib.hid hG
  clear hA hG
  have h3 : decide ((wn : Int) + 3 < 0) = false := decide_eq_false (by omega)
  have h1 : decide ((wn : Int) + 1 < 0) = false := decide_eq_false (by omega)
  have h0 : decide ((wn : Int) < 0) = false := decide_eq_false (by omega)
  have ew : IntKind.i64.wrap ((wn : Int) + 3) = (wn : Int) + 3 := by rw [IntKind.wrap_i64]; omega
  have ew1 : IntKind.i64.wrap ((wn : Int) + 1) = (wn : Int) + 1 := by rw [IntKind.wrap_i64]; omega
  go_enter Tryd.func106, Tryd.ntmps106
  go_upto_region 4 with (first | fail | (go_at_call 34; (try rw [hP1]); (try rw [hP2]); (with_reducible refine (HPw.out _).mono ?_); rintro r w1 ⟨v1, rfl, hv1, b1⟩; obtain ⟨A1, c1, rfl⟩ := Kd.R_slice hv1; have HV1 := Lib.hid hv1; clear hv1; obtain ⟨hc1, hf1⟩ := bcell b1; have hz1 := below_size b1; (try simp at hz1); have zz1_0 : w.heap.size + 1 < w1.heap.size := (by omega); have zz1_1 : w.heap.size + 1 + 1 < w1.heap.size := (by omega)) | (go_at_call 38; (with_reducible refine (HDi.out _ _ _ _ (Kd.C_below HC.out bel) (Kd.C_below (R_C HV1.out).1 bel) (R_C HV1.out).2).mono ?_); rintro r w2 ⟨v2, u2, rfl, hv2, hu2, b2⟩; obtain ⟨A2, c2, rfl⟩ := Kd.R_slice hv2; obtain ⟨E2, d2, rfl⟩ := Kd.R_slice hu2; have HV2 := Lib.hid (R_C hv2); have HU2 := Lib.hid (R_C hu2); clear hv2 hu2; obtain ⟨hc2, hf2⟩ := bcell b2; have hz2 := below_size b2; (try simp at hz2); have zz2_0 : w.heap.size + 1 < w2.heap.size := (by omega); have zz2_1 : w.heap.size + 1 + 1 < w2.heap.size := (by omega)) | (go_at_call 110; (with_reducible refine (HTo.out _ _ _ _ (Kd.C_below HV2.out.1 bel) HV2.out.2).mono ?_); rintro r w3 ⟨rfl, rfl⟩))
  go_cut [3, 4, 5, 8, 9, 11, 13, 15, 16, 17] (fun v_3 v_4 v_5 v_8 v_9 v_11 v_13 v_15 v_16 v_17 wx => ∃ (B' : Option Addr) (m' d' : Nat), v_3 = .int .i64 ex ∧ v_4 = .pointer (some ⟨w.heap.size, 0, none⟩) ∧ BlkIs wx w.heap.size 83 (· = #[]) ∧ v_5 = .pointer (some ⟨w.heap.size + 1, 0, none⟩) ∧ BlkIs wx (w.heap.size + 1) 55 (· = #[.int .i64 P, .int .i64 L, .int .i64 H, .int .i64 (wn : Nat), .int .i64 (10 * (k : Int))]) ∧ v_8 = .int .u64 0 ∧ v_9 = .pointer (some ⟨w.heap.size + 1 + 1, 0, none⟩) ∧ BlkIs wx (w.heap.size + 1 + 1) 59 (· = #[.int .u64 0, .int .u64 0]) ∧ v_11 = .slice B' m' d' ∧ Hid (Kd.C (Kd.int .u32) wx B' m' (ofN R) ∧ m' ≤ d') ∧ v_13 = .int .u64 (n : Nat) ∧ v_15 = .int .u64 (E : Nat) ∧ v_16 = .int .u64 (u : Nat) ∧ v_17 = .int .u64 (lw : Nat) ∧ Below w.heap.size w wx)
  case first =>
    go_wp2_with (first | fail | (go_at_call 34; (try rw [hP1]); (try rw [hP2]); (with_reducible refine (HPw.out _).mono ?_); rintro r w1 ⟨v1, rfl, hv1, b1⟩; obtain ⟨A1, c1, rfl⟩ := Kd.R_slice hv1; have HV1 := Lib.hid hv1; clear hv1; obtain ⟨hc1, hf1⟩ := bcell b1; have hz1 := below_size b1; (try simp at hz1); have zz1_0 : w.heap.size + 1 < w1.heap.size := (by omega); have zz1_1 : w.heap.size + 1 + 1 < w1.heap.size := (by omega)) | (go_at_call 38; (with_reducible refine (HDi.out _ _ _ _ (Kd.C_below HC.out bel) (Kd.C_below (R_C HV1.out).1 bel) (R_C HV1.out).2).mono ?_); rintro r w2 ⟨v2, u2, rfl, hv2, hu2, b2⟩; obtain ⟨A2, c2, rfl⟩ := Kd.R_slice hv2; obtain ⟨E2, d2, rfl⟩ := Kd.R_slice hu2; have HV2 := Lib.hid (R_C hv2); have HU2 := Lib.hid (R_C hu2); clear hv2 hu2; obtain ⟨hc2, hf2⟩ := bcell b2; have hz2 := below_size b2; (try simp at hz2); have zz2_0 : w.heap.size + 1 < w2.heap.size := (by omega); have zz2_1 : w.heap.size + 1 + 1 < w2.heap.size := (by omega)) | (go_at_call 110; (with_reducible refine (HTo.out _ _ _ _ (Kd.C_below HV2.out.1 bel) HV2.out.2).mono ?_); rintro r w3 ⟨rfl, rfl⟩))
    go_region
    go_wp2_with fail
    go_meet
    exact ⟨_, _, _, rfl, rfl, blk0, rfl, blk0, rfl, rfl, blk0, rfl, Lib.hid ⟨Kd.C_below HU2.out.1 bel, HU2.out.2⟩, rfl, (by first | rfl | (simp [hE2, hE3]; done) | (simp [*]; done)), (by first | rfl | (simp [*]; done)), (by first | rfl | (simp [*]; done)), bel⟩
  case rest =>
    skip
    obtain ⟨B', m', d', rfl, rfl, HB4, rfl, HB5, rfl, rfl, HB9, rfl, HU, rfl, rfl, rfl, rfl, hbw⟩ := hcut
    obtain ⟨cs4, hbk4, rfl⟩ := HB4
    obtain ⟨cs5, hbk5, rfl⟩ := HB5
    obtain ⟨cs9, hbk9, rfl⟩ := HB9
    have f4_z : w.heap.size < wc.heap.size := blk_lt hbk4
    have f_0 : wc.cell? ⟨(w.heap.size + 1), 0, none⟩ = some (.int .i64 P) := by simpa using blk_cell hbk5 0
    have f_1 : wc.cell? ⟨(w.heap.size + 1), 1, none⟩ = some (.int .i64 L) := by simpa using blk_cell hbk5 1
    have f_2 : wc.cell? ⟨(w.heap.size + 1), 2, none⟩ = some (.int .i64 H) := by simpa using blk_cell hbk5 2
    have f_3 : wc.cell? ⟨(w.heap.size + 1), 3, none⟩ = some (.int .i64 (wn : Nat)) := by simpa using blk_cell hbk5 3
    have f_4 : wc.cell? ⟨(w.heap.size + 1), 4, none⟩ = some (.int .i64 (10 * (k : Int))) := by simpa using blk_cell hbk5 4
    have f_z : (w.heap.size + 1) < wc.heap.size := blk_lt hbk5
    have z_0 : wc.cell? ⟨(w.heap.size + 1 + 1), 0, none⟩ = some (.int .u64 0) := by simpa using blk_cell hbk9 0
    have z_f0 : wc.frozen? ⟨(w.heap.size + 1 + 1), 0, none⟩ = false := blk_frozen hbk9 0
    have z_1 : wc.cell? ⟨(w.heap.size + 1 + 1), 1, none⟩ = some (.int .u64 0) := by simpa using blk_cell hbk9 1
    have z_f1 : wc.frozen? ⟨(w.heap.size + 1 + 1), 1, none⟩ = false := blk_frozen hbk9 1
    have z_z : (w.heap.size + 1 + 1) < wc.heap.size := blk_lt hbk9
    clear hE hE2 hE3 hE4 hE5 hP1 hP2
    go_wp2_with fail
    go_region_held3 (fun w' => HeldS (wc) ((w.heap.size + 1 + 1)) w' ∧ (∀ b o, b < (wc).heap.size → b ≠ (w.heap.size + 1 + 1) → w'.cell? ⟨b, o, none⟩ = (wc).cell? ⟨b, o, none⟩) ∧ ∀ o, w'.frozen? ⟨(w.heap.size + 1 + 1), o, none⟩ = (wc).frozen? ⟨(w.heap.size + 1 + 1), o, none⟩) (first | ((try go_split_ands); refine held_S ?_; ((repeat (first | with_reducible assumption | with_reducible exact HeldS.refl (by with_reducible assumption) | with_reducible refine HeldS.alloc ?_ | with_reducible refine HeldS.drewN ?_ | with_reducible refine HeldS.drew ?_ | with_reducible refine HeldS.set ?_ | ((with_reducible refine HeldS.fresh ?_ ?hfr); (case hfr => first | (simp; done) | omega | (simp; omega))) | with_reducible refine HeldS.step ?_ (by with_reducible assumption))); done))) (first | (go_at_call 109; (with_reducible refine (HTr.out _ _ _ _ (Kd.C_below HU.out.1 bel) HU.out.2).mono ?_); rintro r w20 ⟨hi20, lo20, rfl, hw20, b20⟩; obtain ⟨hc20, hf20⟩ := bcell b20; (try simp only [dr_size, dr_cell] at hc20); (try simp only [dr_size, dr_frozen] at hf20); have hz20 := below_size b20; (try simp at hz20); have zz20_0 : w.heap.size + 1 < w20.heap.size := (by omega); have zz20_1 : w.heap.size + 1 + 1 < w20.heap.size := (by omega)))
    all_goals
      go_wp2_with fail
      exact bodyPost_ret (v := .tuple #[.int .u64 (G : Nat), wV hi20 lo20]) (by first | (simp [results, Tryd.results106, go_sem, *]; done) | (simp [results, Tryd.results106, go_sem, *]; exact HG.out)) rfl ⟨_, _, rfl, hw20, bel⟩
set_option maxHeartbeats 8000000 in
theorem tfin_b {ex P L H : Int} {wn k x Y n R T E G u lw b p1 nl c : Nat} {A : Option Addr} (w : World)
    (hA : Kd.C (Kd.int .u32) w A nl (ofN x)) (hcl : nl ≤ c) (hP1 : wrap64 (P - 1) = (p1 : Nat)) (hP2 : IntKind.i64.wrap (P - 1) = (p1 : Nat)) (hwn : wn ≤ 12)
    (HPw : Hid (∀ w', Calls Tryd.prog 34 #[.int .i64 (p1 : Nat)] w' (NewRow w' (ofN Y))))
    (HDi : Hid (∀ A' n' c' w', Kd.C (Kd.int .u32) w' A nl (ofN x) → Kd.C (Kd.int .u32) w' A' n' (ofN Y) → n' ≤ c' → Calls Tryd.prog 38 #[.slice A nl c, .slice A' n' c'] w' (NumErr2 (ofN n) (ofN R) 0 w')))
    (HTo : Hid (∀ A n' c w', Kd.C (Kd.int .u32) w' A n' (ofN n) → n' ≤ c → Calls Tryd.prog 110 #[.slice A n' c] w' fun e w'' => e = .returned (.tuple #[.int .u64 (n : Nat), .int .i64 0]) ∧ w' = w''))
    (HTr : Hid (∀ A n' c w', Kd.C (Kd.int .u32) w' A n' (ofN R) → n' ≤ c → Calls Tryd.prog 109 #[.agg #[], fV P L H (wn : Nat) (10 * (k : Int)), .slice A n' c] w' (GivesW T w')))
    (hE : IntKind.u64.wrap (IntKind.i64.wrap (ex - L)) = (E : Nat)) (hE2 : IntKind.u64.wrap (wrap64 (ex - L)) = (E : Nat)) (hE3 : IntKind.u64.wrap (ex - L) = (E : Nat)) (hE4 : IntKind.i64.wrap (ex - L) = ex - L) (hE5 : wrap64 (ex - L) = ex - L)
    (e1 : (E : Int) / 2 ^ wn = (u : Nat)) (e7 : IntKind.u64.wrap (2 ^ wn) = (2 : Int) ^ wn) (e8 : IntKind.u64.wrap ((2 : Int) ^ wn - 1) = ((2 ^ wn - 1 : Nat) : Int)) (e9 : bits .and .u64 (E : Int) ((2 ^ wn - 1 : Nat) : Int) = (lw : Nat))
    (hn8 : decide ((n : Int) < 8) = false) (hn1 : bits .and .u64 (n : Int) 1 = (b : Nat)) (hG : bits .or .u64 (bits .or .u64 (bits .or .u64 (IntKind.u64.wrap (3 * 2 ^ ((wn : Int) + 3).toNat)) (IntKind.u64.wrap ((u : Int) * 2 ^ ((wn : Int) + 1).toNat))) (IntKind.u64.wrap ((b : Int) * 2 ^ wn))) (lw : Nat) = (G : Nat)) :
    Calls Tryd.prog 106 #[.agg #[], fV P L H (wn : Nat) (10 * (k : Int)), .slice A nl c, .int .i64 ex] w (FinP G T w) := by
  have HC := Lib.hid hA
  have HG := Lib.hid hG
  clear hA hG
  have h3 : decide ((wn : Int) + 3 < 0) = false := decide_eq_false (by omega)
  have h1 : decide ((wn : Int) + 1 < 0) = false := decide_eq_false (by omega)
  have h0 : decide ((wn : Int) < 0) = false := decide_eq_false (by omega)
  have ew : IntKind.i64.wrap ((wn : Int) + 3) = (wn : Int) + 3 := by rw [IntKind.wrap_i64]; omega
  have ew1 : IntKind.i64.wrap ((wn : Int) + 1) = (wn : Int) + 1 := by rw [IntKind.wrap_i64]; omega
  go_enter Tryd.func106, Tryd.ntmps106
  go_upto_region 4 with (first | fail | (go_at_call 34; (try rw [hP1]); (try rw [hP2]); (with_reducible refine (HPw.out _).mono ?_); rintro r w1 ⟨v1, rfl, hv1, b1⟩; obtain ⟨A1, c1, rfl⟩ := Kd.R_slice hv1; have HV1 := Lib.hid hv1; clear hv1; obtain ⟨hc1, hf1⟩ := bcell b1; have hz1 := below_size b1; (try simp at hz1); have zz1_0 : w.heap.size + 1 < w1.heap.size := (by omega); have zz1_1 : w.heap.size + 1 + 1 < w1.heap.size := (by omega)) | (go_at_call 38; (with_reducible refine (HDi.out _ _ _ _ (Kd.C_below HC.out bel) (Kd.C_below (R_C HV1.out).1 bel) (R_C HV1.out).2).mono ?_); rintro r w2 ⟨v2, u2, rfl, hv2, hu2, b2⟩; obtain ⟨A2, c2, rfl⟩ := Kd.R_slice hv2; obtain ⟨E2, d2, rfl⟩ := Kd.R_slice hu2; have HV2 := Lib.hid (R_C hv2); have HU2 := Lib.hid (R_C hu2); clear hv2 hu2; obtain ⟨hc2, hf2⟩ := bcell b2; have hz2 := below_size b2; (try simp at hz2); have zz2_0 : w.heap.size + 1 < w2.heap.size := (by omega); have zz2_1 : w.heap.size + 1 + 1 < w2.heap.size := (by omega)) | (go_at_call 110; (with_reducible refine (HTo.out _ _ _ _ (Kd.C_below HV2.out.1 bel) HV2.out.2).mono ?_); rintro r w3 ⟨rfl, rfl⟩))
  go_cut [3, 4, 5, 8, 9, 11, 13, 15, 16, 17] (fun v_3 v_4 v_5 v_8 v_9 v_11 v_13 v_15 v_16 v_17 wx => ∃ (B' : Option Addr) (m' d' : Nat), v_3 = .int .i64 ex ∧ v_4 = .pointer (some ⟨w.heap.size, 0, none⟩) ∧ BlkIs wx w.heap.size 83 (· = #[]) ∧ v_5 = .pointer (some ⟨w.heap.size + 1, 0, none⟩) ∧ BlkIs wx (w.heap.size + 1) 55 (· = #[.int .i64 P, .int .i64 L, .int .i64 H, .int .i64 (wn : Nat), .int .i64 (10 * (k : Int))]) ∧ v_8 = .int .u64 0 ∧ v_9 = .pointer (some ⟨w.heap.size + 1 + 1, 0, none⟩) ∧ BlkIs wx (w.heap.size + 1 + 1) 59 (· = #[.int .u64 0, .int .u64 0]) ∧ v_11 = .slice B' m' d' ∧ Hid (Kd.C (Kd.int .u32) wx B' m' (ofN R) ∧ m' ≤ d') ∧ v_13 = .int .u64 (n : Nat) ∧ v_15 = .int .u64 (E : Nat) ∧ v_16 = .int .u64 (u : Nat) ∧ v_17 = .int .u64 (lw : Nat) ∧ Below w.heap.size w wx)
  case first =>
    go_wp2_with (first | fail | (go_at_call 34; (try rw [hP1]); (try rw [hP2]); (with_reducible refine (HPw.out _).mono ?_); rintro r w1 ⟨v1, rfl, hv1, b1⟩; obtain ⟨A1, c1, rfl⟩ := Kd.R_slice hv1; have HV1 := Lib.hid hv1; clear hv1; obtain ⟨hc1, hf1⟩ := bcell b1; have hz1 := below_size b1; (try simp at hz1); have zz1_0 : w.heap.size + 1 < w1.heap.size := (by omega); have zz1_1 : w.heap.size + 1 + 1 < w1.heap.size := (by omega)) | (go_at_call 38; (with_reducible refine (HDi.out _ _ _ _ (Kd.C_below HC.out bel) (Kd.C_below (R_C HV1.out).1 bel) (R_C HV1.out).2).mono ?_); rintro r w2 ⟨v2, u2, rfl, hv2, hu2, b2⟩; obtain ⟨A2, c2, rfl⟩ := Kd.R_slice hv2; obtain ⟨E2, d2, rfl⟩ := Kd.R_slice hu2; have HV2 := Lib.hid (R_C hv2); have HU2 := Lib.hid (R_C hu2); clear hv2 hu2; obtain ⟨hc2, hf2⟩ := bcell b2; have hz2 := below_size b2; (try simp at hz2); have zz2_0 : w.heap.size + 1 < w2.heap.size := (by omega); have zz2_1 : w.heap.size + 1 + 1 < w2.heap.size := (by omega)) | (go_at_call 110; (with_reducible refine (HTo.out _ _ _ _ (Kd.C_below HV2.out.1 bel) HV2.out.2).mono ?_); rintro r w3 ⟨rfl, rfl⟩))
    go_region
    go_wp2_with fail
    go_meet
    exact ⟨_, _, _, rfl, rfl, blk0, rfl, blk0, rfl, rfl, blk0, rfl, Lib.hid ⟨Kd.C_below HU2.out.1 bel, HU2.out.2⟩, rfl, (by first | rfl | (simp [hE2, hE3]; done) | (simp [*]; done)), (by first | rfl | (simp [*]; done)), (by first | rfl | (simp [*]; done)), bel⟩
  case rest =>
    skip
    obtain ⟨B', m', d', rfl, rfl, HB4, rfl, HB5, rfl, rfl, HB9, rfl, HU, rfl, rfl, rfl, rfl, hbw⟩ := hcut
    obtain ⟨cs4, hbk4, rfl⟩ := HB4
    obtain ⟨cs5, hbk5, rfl⟩ := HB5
    obtain ⟨cs9, hbk9, rfl⟩ := HB9
    have f4_z : w.heap.size < wc.heap.size := blk_lt hbk4
    have f_0 : wc.cell? ⟨(w.heap.size + 1), 0, none⟩ = some (.int .i64 P) := by simpa using blk_cell hbk5 0
    have f_1 : wc.cell? ⟨(w.heap.size + 1), 1, none⟩ = some (.int .i64 L) := by simpa using blk_cell hbk5 1
    have f_2 : wc.cell? ⟨(w.heap.size + 1), 2, none⟩ = some (.int .i64 H) := by simpa using blk_cell hbk5 2
    have f_3 : wc.cell? ⟨(w.heap.size + 1), 3, none⟩ = some (.int .i64 (wn : Nat)) := by simpa using blk_cell hbk5 3
    have f_4 : wc.cell? ⟨(w.heap.size + 1), 4, none⟩ = some (.int .i64 (10 * (k : Int))) := by simpa using blk_cell hbk5 4
    have f_z : (w.heap.size + 1) < wc.heap.size := blk_lt hbk5
    have z_0 : wc.cell? ⟨(w.heap.size + 1 + 1), 0, none⟩ = some (.int .u64 0) := by simpa using blk_cell hbk9 0
    have z_f0 : wc.frozen? ⟨(w.heap.size + 1 + 1), 0, none⟩ = false := blk_frozen hbk9 0
    have z_1 : wc.cell? ⟨(w.heap.size + 1 + 1), 1, none⟩ = some (.int .u64 0) := by simpa using blk_cell hbk9 1
    have z_f1 : wc.frozen? ⟨(w.heap.size + 1 + 1), 1, none⟩ = false := blk_frozen hbk9 1
    have z_z : (w.heap.size + 1 + 1) < wc.heap.size := blk_lt hbk9
    clear hE hE2 hE3 hE4 hE5 hP1 hP2
    go_wp2_with fail
    go_region_held3 (fun w' => HeldS (wc) ((w.heap.size + 1 + 1)) w' ∧ (∀ b o, b < (wc).heap.size → b ≠ (w.heap.size + 1 + 1) → w'.cell? ⟨b, o, none⟩ = (wc).cell? ⟨b, o, none⟩) ∧ ∀ o, w'.frozen? ⟨(w.heap.size + 1 + 1), o, none⟩ = (wc).frozen? ⟨(w.heap.size + 1 + 1), o, none⟩) (first | ((try go_split_ands); refine held_S ?_; ((repeat (first | with_reducible assumption | with_reducible exact HeldS.refl (by with_reducible assumption) | with_reducible refine HeldS.alloc ?_ | with_reducible refine HeldS.drewN ?_ | with_reducible refine HeldS.drew ?_ | with_reducible refine HeldS.set ?_ | ((with_reducible refine HeldS.fresh ?_ ?hfr); (case hfr => first | (simp; done) | omega | (simp; omega))) | with_reducible refine HeldS.step ?_ (by with_reducible assumption))); done))) (first | (go_at_call 109; (with_reducible refine (HTr.out _ _ _ _ (Kd.C_below HU.out.1 bel) HU.out.2).mono ?_); rintro r w20 ⟨hi20, lo20, rfl, hw20, b20⟩; obtain ⟨hc20, hf20⟩ := bcell b20; (try simp only [dr_size, dr_cell] at hc20); (try simp only [dr_size, dr_frozen] at hf20); have hz20 := below_size b20; (try simp at hz20); have zz20_0 : w.heap.size + 1 < w20.heap.size := (by omega); have zz20_1 : w.heap.size + 1 + 1 < w20.heap.size := (by omega)))
    all_goals
      go_wp2_with fail
      exact bodyPost_ret (v := .tuple #[.int .u64 (G : Nat), wV hi20 lo20]) (by first | (simp [results, Tryd.results106, go_sem, *]; done) | (simp [results, Tryd.results106, go_sem, *]; exact HG.out)) rfl ⟨_, _, rfl, hw20, bel⟩
end Go.Proofs.YtiplbpfdkcddlaaDoor

set_option linter.unusedSimpArgs false
set_option linter.unusedVariables false
set_option linter.unnecessarySimpa false
namespace Go.Proofs.YtiplbpfdkcddlaaDoor
open Go.RowKit Go.Proofs.YtiplbpfdkcddlaaDoorW.PrintWords Go.Proofs.YtiplbpfdkcddlaaDoorW.PrintLast Go.Proofs.YtiplbpfdkcddlaaDoorW.PrintMore Go.Proofs.YtiplbpfdkcddlaaDoor.NL
set_option maxRecDepth 100000
set_option exponentiation.threshold 33000
set_option maxHeartbeats 4000000 in
theorem ppay_t {P L H W : Int} {tn T p1 : Nat} {hi lo : Int} (w : World) (hP1 : wrap64 (P - 1) = (p1 : Nat)) (hP2 : IntKind.i64.wrap (P - 1) = (p1 : Nat))
    (HNu : Hid (∀ w', Calls Tryd.prog 102 #[wV hi lo] w' (NewRow w' (ofN T))))
    (HBe : Hid (∀ A n c w', Kd.C (Kd.int .u32) w' A n (ofN T) → n ≤ c → Calls Tryd.prog 27 #[.slice A n c, .int .i64 (p1 : Nat)] w' fun r w'' => r = .returned (.bool true) ∧ Below w'.heap.size w' w'')) :
    Calls Tryd.prog 113 #[.agg #[], fV P L H W (tn : Nat), wV hi lo] w (PayP T true w) := by
  go_enter Tryd.func113, Tryd.ntmps113
  go_wp2_with (first | fail | (go_at_call 102; (with_reducible refine (HNu.out _).mono ?_); rintro r w1 ⟨v1, rfl, hv1, b1⟩; obtain ⟨A1, c1, rfl⟩ := Kd.R_slice hv1; have HV1 := Lib.hid hv1; clear hv1; obtain ⟨hc1, hf1⟩ := bcell b1; have hz1 := below_size b1; (try simp at hz1); have zz1_0 : w.heap.size + 1 < w1.heap.size := (by omega)) | (go_at_call 27; (try rw [hP1]); (try rw [hP2]); (with_reducible refine (HBe.out _ _ _ _ (Kd.C_below (R_C HV1.out).1 bel) (R_C HV1.out).2).mono ?_); rintro r w2 ⟨rfl, b2⟩; obtain ⟨hc2, hf2⟩ := bcell b2; have hz2 := below_size b2; (try simp at hz2); have zz2_0 : w.heap.size + 1 < w2.heap.size := (by omega)))
  all_goals exact bodyPost_ret (v := .tuple #[.slice A1 (ofN T).length c1, .bool true]) (by simp [results, Tryd.results113, go_sem, *]) rfl ⟨_, rfl, Kd.R_lower (Kd.R_below HV1.out bel) (by first | omega | (simp; done) | (simp; omega)), bel⟩
set_option maxHeartbeats 4000000 in
theorem ppay_f {P L H W : Int} {tn T p1 : Nat} {hi lo : Int} (w : World) (hP1 : wrap64 (P - 1) = (p1 : Nat)) (hP2 : IntKind.i64.wrap (P - 1) = (p1 : Nat))
    (HNu : Hid (∀ w', Calls Tryd.prog 102 #[wV hi lo] w' (NewRow w' (ofN T))))
    (HBe : Hid (∀ A n c w', Kd.C (Kd.int .u32) w' A n (ofN T) → n ≤ c → Calls Tryd.prog 27 #[.slice A n c, .int .i64 (p1 : Nat)] w' fun r w'' => r = .returned (.bool false) ∧ Below w'.heap.size w' w'')) :
    Calls Tryd.prog 113 #[.agg #[], fV P L H W (tn : Nat), wV hi lo] w (PayP 0 false w) := by
  go_enter Tryd.func113, Tryd.ntmps113
  go_wp2_with (first | fail | (go_at_call 102; (with_reducible refine (HNu.out _).mono ?_); rintro r w1 ⟨v1, rfl, hv1, b1⟩; obtain ⟨A1, c1, rfl⟩ := Kd.R_slice hv1; have HV1 := Lib.hid hv1; clear hv1; obtain ⟨hc1, hf1⟩ := bcell b1; have hz1 := below_size b1; (try simp at hz1); have zz1_0 : w.heap.size + 1 < w1.heap.size := (by omega)) | (go_at_call 27; (try rw [hP1]); (try rw [hP2]); (with_reducible refine (HBe.out _ _ _ _ (Kd.C_below (R_C HV1.out).1 bel) (R_C HV1.out).2).mono ?_); rintro r w2 ⟨rfl, b2⟩; obtain ⟨hc2, hf2⟩ := bcell b2; have hz2 := below_size b2; (try simp at hz2); have zz2_0 : w.heap.size + 1 < w2.heap.size := (by omega)))
  all_goals exact bodyPost_ret (v := .tuple #[.slice none 0 0, .bool false]) (by simp [results, Tryd.results113, go_sem, *]) rfl ⟨_, rfl, by rw [ofN_zero]; exact Kd.R_nil _ _ _ _ _, bel⟩
set_option maxHeartbeats 8000000 in
theorem pnum_at {P L H : Int} {wn tn G n E b M C : Nat} {hi lo : Int} (w : World)
    (hwn : wn ≤ 12) (htn : tn ≤ 110) (hE : E ≤ 100000) (hL : -100000 ≤ L ∧ L ≤ 0)
    (t3 : ((G : Int) / 2 ^ (wn + 3) == 3) = false) (e2 : bits .and .u64 (G : Int) 7 = (n : Nat)) (e3 : (G : Int) / 8 = (E : Nat))
    (HLf : Hid (∀ w', Calls Tryd.prog 22 #[wV 0 (n : Nat), .int .i64 (tn : Nat)] w' (GivesW M w')))
    (HJ : Hid (∀ h1 l1 w', Hid (Wd M h1 l1) → Calls Tryd.prog 21 #[wV h1 l1, wV hi lo] w' (GivesW C w')))
    (HNu : Hid (∀ h1 l1 w', Hid (Wd C h1 l1) → Calls Tryd.prog 102 #[wV h1 l1] w' (NewRow w' (ofN C))))
    (HBe : Hid (∀ A n c w', Kd.C (Kd.int .u32) w' A n (ofN C) → n ≤ c → Calls Tryd.prog 27 #[.slice A n c, .int .i64 P] w' fun r w'' => r = .returned (.bool true) ∧ Below w'.heap.size w' w'')) :
    Calls Tryd.prog 112 #[.agg #[], fV P L H (wn : Nat) (tn : Nat), .int .u64 (G : Nat), wV hi lo] w (NumP C (L + (E : Nat)) true w) := by
  have h3 : decide ((wn : Int) + 3 < 0) = false := decide_eq_false (by omega)
  have h2 : decide ((wn : Int) + 2 < 0) = false := decide_eq_false (by omega)
  have ew : IntKind.i64.wrap ((wn : Int) + 3) = (wn : Int) + 3 := by rw [IntKind.wrap_i64]; omega
  have ew2 : IntKind.i64.wrap ((wn : Int) + 2) = (wn : Int) + 2 := by rw [IntKind.wrap_i64]; omega
  go_enter Tryd.func112, Tryd.ntmps112
  go_upto_region 1 with fail
  go_cut [5, 7, 8, 9, 10, 11, 12] (fun v_5 v_7 v_8 v_9 v_10 v_11 v_12 wx => v_5 = .pointer (some ⟨w.heap.size + 1, 0, none⟩) ∧ BlkIs wx (w.heap.size + 1) 55 (· = #[.int .i64 P, .int .i64 L, .int .i64 H, .int .i64 (wn : Nat), .int .i64 (tn : Nat)]) ∧ v_7 = .pointer (some ⟨w.heap.size + 1 + 1, 0, none⟩) ∧ BlkIs wx (w.heap.size + 1 + 1) 59 (· = #[.int .u64 hi, .int .u64 lo]) ∧ v_8 = .slice none 0 0 ∧ v_9 = .int .i64 0 ∧ v_10 = .bool false ∧ v_11 = .int .u64 (n : Nat) ∧ v_12 = .int .u64 (E : Nat) ∧ Below w.heap.size w wx)
  case first =>
    go_wp2_with (first | fail)
    go_meet
    exact ⟨rfl, blk0, rfl, blk0, rfl, rfl, rfl, (by first | rfl | (simp [*]; done)), (by first | rfl | (simp [*]; done)), bel⟩
  case rest =>
    skip
    obtain ⟨rfl, HB5, rfl, HB7, rfl, rfl, rfl, rfl, rfl, hbw⟩ := hcut
    obtain ⟨cs5, hbk5, rfl⟩ := HB5
    obtain ⟨cs7, hbk7, rfl⟩ := HB7
    have f_0 : wc.cell? ⟨(w.heap.size + 1), 0, none⟩ = some (.int .i64 P) := by simpa using blk_cell hbk5 0
    have f_1 : wc.cell? ⟨(w.heap.size + 1), 1, none⟩ = some (.int .i64 L) := by simpa using blk_cell hbk5 1
    have f_2 : wc.cell? ⟨(w.heap.size + 1), 2, none⟩ = some (.int .i64 H) := by simpa using blk_cell hbk5 2
    have f_3 : wc.cell? ⟨(w.heap.size + 1), 3, none⟩ = some (.int .i64 (wn : Nat)) := by simpa using blk_cell hbk5 3
    have f_4 : wc.cell? ⟨(w.heap.size + 1), 4, none⟩ = some (.int .i64 (tn : Nat)) := by simpa using blk_cell hbk5 4
    have f_z : (w.heap.size + 1) < wc.heap.size := blk_lt hbk5
    have d_0 : wc.cell? ⟨(w.heap.size + 1 + 1), 0, none⟩ = some (.int .u64 hi) := by simpa using blk_cell hbk7 0
    have d_1 : wc.cell? ⟨(w.heap.size + 1 + 1), 1, none⟩ = some (.int .u64 lo) := by simpa using blk_cell hbk7 1
    have d_z : (w.heap.size + 1 + 1) < wc.heap.size := blk_lt hbk7
    go_wp2_with fail
    skip
    skip
    go_region_held3 (fun w' => Below (wc).heap.size (wc) w' ∧ ∀ b o, b < (wc).heap.size → w'.cell? ⟨b, o, none⟩ = (wc).cell? ⟨b, o, none⟩) (first | ((try go_split_ands); refine below_S ?_; ((repeat (first | with_reducible assumption | with_reducible exact Below.refl _ _ | with_reducible refine below_alloc ?_ _ | with_reducible refine pw_below_drewN ?_ _ | with_reducible refine below_drew1 ?_ | ((with_reducible refine below_set ?_ ?hle); (case hle => first | (simp; done) | omega | (simp; omega))) | with_reducible refine below_step ?_ (by with_reducible assumption))); done))) (first | (go_at_call 22; (with_reducible refine (HLf.out _).mono ?_); rintro r w10 ⟨hi10, lo10, rfl, hw10, b10⟩; obtain ⟨hc10, hf10⟩ := bcell b10; (try simp only [dr_size, dr_cell] at hc10); (try simp only [dr_size, dr_frozen] at hf10); have hz10 := below_size b10; (try simp at hz10); have zz10_0 : w.heap.size + 1 < w10.heap.size := (by omega); have zz10_1 : w.heap.size + 1 + 1 < w10.heap.size := (by omega); (try have zA10 : wc.heap.size < w10.heap.size := (by omega))) | (go_at_call 21; (with_reducible refine (HJ.out _ _ _ hw10).mono ?_); rintro r w11 ⟨hi11, lo11, rfl, hw11, b11⟩; obtain ⟨hc11, hf11⟩ := bcell b11; (try simp only [dr_size, dr_cell] at hc11); (try simp only [dr_size, dr_frozen] at hf11); have hz11 := below_size b11; (try simp at hz11); have zz11_0 : w.heap.size + 1 < w11.heap.size := (by omega); have zz11_1 : w.heap.size + 1 + 1 < w11.heap.size := (by omega); (try have zA11 : wc.heap.size < w11.heap.size := (by omega)); (try have zB11 : w10.heap.size < w11.heap.size := (by omega))) | (go_at_call 102; (with_reducible refine (HNu.out _ _ _ hw11).mono ?_); rintro r w12 ⟨v12, rfl, hv12, b12⟩; obtain ⟨A12, c12, rfl⟩ := Kd.R_slice hv12; have HV12 := Lib.hid hv12; clear hv12; obtain ⟨hc12, hf12⟩ := bcell b12; (try simp only [dr_size, dr_cell] at hc12); (try simp only [dr_size, dr_frozen] at hf12); have hz12 := below_size b12; (try simp at hz12); have zz12_0 : w.heap.size + 1 < w12.heap.size := (by omega); have zz12_1 : w.heap.size + 1 + 1 < w12.heap.size := (by omega); (try have zA12 : wc.heap.size < w12.heap.size := (by omega)); (try have zB12 : w11.heap.size < w12.heap.size := (by omega)); (try have zC12 : w10.heap.size < w12.heap.size := (by omega))))
    all_goals
      go_wp2_with (first | fail | (go_at_call 27; (with_reducible refine (HBe.out _ _ _ _ (Kd.C_below (R_C HV12.out).1 bel) (R_C HV12.out).2).mono ?_); rintro r w20 ⟨rfl, b20⟩; obtain ⟨hc20, hf20⟩ := bcell b20; have hz20 := below_size b20; (try simp at hz20); have zz20_0 : w.heap.size + 1 < w20.heap.size := (by omega); have zz20_1 : w.heap.size + 1 + 1 < w20.heap.size := (by omega)))
      go_region
      go_wp2_with fail
      all_goals exact bodyPost_ret (v := .tuple #[.slice A12 (ofN C).length c12, .int .i64 (L + (E : Nat)), .bool true]) (by simp [results, Tryd.results112, go_sem, *]) rfl ⟨_, rfl, Kd.R_lower (Kd.R_below HV12.out bel) (by first | omega | (simp; done) | (simp; omega)), bel⟩
set_option maxHeartbeats 8000000 in
theorem pnum_af {P L H : Int} {wn tn G n E b M C : Nat} {hi lo : Int} (w : World)
    (hwn : wn ≤ 12) (htn : tn ≤ 110) (hE : E ≤ 100000) (hL : -100000 ≤ L ∧ L ≤ 0)
    (t3 : ((G : Int) / 2 ^ (wn + 3) == 3) = false) (e2 : bits .and .u64 (G : Int) 7 = (n : Nat)) (e3 : (G : Int) / 8 = (E : Nat))
    (HLf : Hid (∀ w', Calls Tryd.prog 22 #[wV 0 (n : Nat), .int .i64 (tn : Nat)] w' (GivesW M w')))
    (HJ : Hid (∀ h1 l1 w', Hid (Wd M h1 l1) → Calls Tryd.prog 21 #[wV h1 l1, wV hi lo] w' (GivesW C w')))
    (HNu : Hid (∀ h1 l1 w', Hid (Wd C h1 l1) → Calls Tryd.prog 102 #[wV h1 l1] w' (NewRow w' (ofN C))))
    (HBe : Hid (∀ A n c w', Kd.C (Kd.int .u32) w' A n (ofN C) → n ≤ c → Calls Tryd.prog 27 #[.slice A n c, .int .i64 P] w' fun r w'' => r = .returned (.bool false) ∧ Below w'.heap.size w' w'')) :
    Calls Tryd.prog 112 #[.agg #[], fV P L H (wn : Nat) (tn : Nat), .int .u64 (G : Nat), wV hi lo] w (NumP 0 (L + (E : Nat)) false w) := by
  have h3 : decide ((wn : Int) + 3 < 0) = false := decide_eq_false (by omega)
  have h2 : decide ((wn : Int) + 2 < 0) = false := decide_eq_false (by omega)
  have ew : IntKind.i64.wrap ((wn : Int) + 3) = (wn : Int) + 3 := by rw [IntKind.wrap_i64]; omega
  have ew2 : IntKind.i64.wrap ((wn : Int) + 2) = (wn : Int) + 2 := by rw [IntKind.wrap_i64]; omega
  go_enter Tryd.func112, Tryd.ntmps112
  go_upto_region 1 with fail
  go_cut [5, 7, 8, 9, 10, 11, 12] (fun v_5 v_7 v_8 v_9 v_10 v_11 v_12 wx => v_5 = .pointer (some ⟨w.heap.size + 1, 0, none⟩) ∧ BlkIs wx (w.heap.size + 1) 55 (· = #[.int .i64 P, .int .i64 L, .int .i64 H, .int .i64 (wn : Nat), .int .i64 (tn : Nat)]) ∧ v_7 = .pointer (some ⟨w.heap.size + 1 + 1, 0, none⟩) ∧ BlkIs wx (w.heap.size + 1 + 1) 59 (· = #[.int .u64 hi, .int .u64 lo]) ∧ v_8 = .slice none 0 0 ∧ v_9 = .int .i64 0 ∧ v_10 = .bool false ∧ v_11 = .int .u64 (n : Nat) ∧ v_12 = .int .u64 (E : Nat) ∧ Below w.heap.size w wx)
  case first =>
    go_wp2_with (first | fail)
    go_meet
    exact ⟨rfl, blk0, rfl, blk0, rfl, rfl, rfl, (by first | rfl | (simp [*]; done)), (by first | rfl | (simp [*]; done)), bel⟩
  case rest =>
    skip
    obtain ⟨rfl, HB5, rfl, HB7, rfl, rfl, rfl, rfl, rfl, hbw⟩ := hcut
    obtain ⟨cs5, hbk5, rfl⟩ := HB5
    obtain ⟨cs7, hbk7, rfl⟩ := HB7
    have f_0 : wc.cell? ⟨(w.heap.size + 1), 0, none⟩ = some (.int .i64 P) := by simpa using blk_cell hbk5 0
    have f_1 : wc.cell? ⟨(w.heap.size + 1), 1, none⟩ = some (.int .i64 L) := by simpa using blk_cell hbk5 1
    have f_2 : wc.cell? ⟨(w.heap.size + 1), 2, none⟩ = some (.int .i64 H) := by simpa using blk_cell hbk5 2
    have f_3 : wc.cell? ⟨(w.heap.size + 1), 3, none⟩ = some (.int .i64 (wn : Nat)) := by simpa using blk_cell hbk5 3
    have f_4 : wc.cell? ⟨(w.heap.size + 1), 4, none⟩ = some (.int .i64 (tn : Nat)) := by simpa using blk_cell hbk5 4
    have f_z : (w.heap.size + 1) < wc.heap.size := blk_lt hbk5
    have d_0 : wc.cell? ⟨(w.heap.size + 1 + 1), 0, none⟩ = some (.int .u64 hi) := by simpa using blk_cell hbk7 0
    have d_1 : wc.cell? ⟨(w.heap.size + 1 + 1), 1, none⟩ = some (.int .u64 lo) := by simpa using blk_cell hbk7 1
    have d_z : (w.heap.size + 1 + 1) < wc.heap.size := blk_lt hbk7
    go_wp2_with fail
    skip
    skip
    go_region_held3 (fun w' => Below (wc).heap.size (wc) w' ∧ ∀ b o, b < (wc).heap.size → w'.cell? ⟨b, o, none⟩ = (wc).cell? ⟨b, o, none⟩) (first | ((try go_split_ands); refine below_S ?_; ((repeat (first | with_reducible assumption | with_reducible exact Below.refl _ _ | with_reducible refine below_alloc ?_ _ | with_reducible refine pw_below_drewN ?_ _ | with_reducible refine below_drew1 ?_ | ((with_reducible refine below_set ?_ ?hle); (case hle => first | (simp; done) | omega | (simp; omega))) | with_reducible refine below_step ?_ (by with_reducible assumption))); done))) (first | (go_at_call 22; (with_reducible refine (HLf.out _).mono ?_); rintro r w10 ⟨hi10, lo10, rfl, hw10, b10⟩; obtain ⟨hc10, hf10⟩ := bcell b10; (try simp only [dr_size, dr_cell] at hc10); (try simp only [dr_size, dr_frozen] at hf10); have hz10 := below_size b10; (try simp at hz10); have zz10_0 : w.heap.size + 1 < w10.heap.size := (by omega); have zz10_1 : w.heap.size + 1 + 1 < w10.heap.size := (by omega); (try have zA10 : wc.heap.size < w10.heap.size := (by omega))) | (go_at_call 21; (with_reducible refine (HJ.out _ _ _ hw10).mono ?_); rintro r w11 ⟨hi11, lo11, rfl, hw11, b11⟩; obtain ⟨hc11, hf11⟩ := bcell b11; (try simp only [dr_size, dr_cell] at hc11); (try simp only [dr_size, dr_frozen] at hf11); have hz11 := below_size b11; (try simp at hz11); have zz11_0 : w.heap.size + 1 < w11.heap.size := (by omega); have zz11_1 : w.heap.size + 1 + 1 < w11.heap.size := (by omega); (try have zA11 : wc.heap.size < w11.heap.size := (by omega)); (try have zB11 : w10.heap.size < w11.heap.size := (by omega))) | (go_at_call 102; (with_reducible refine (HNu.out _ _ _ hw11).mono ?_); rintro r w12 ⟨v12, rfl, hv12, b12⟩; obtain ⟨A12, c12, rfl⟩ := Kd.R_slice hv12; have HV12 := Lib.hid hv12; clear hv12; obtain ⟨hc12, hf12⟩ := bcell b12; (try simp only [dr_size, dr_cell] at hc12); (try simp only [dr_size, dr_frozen] at hf12); have hz12 := below_size b12; (try simp at hz12); have zz12_0 : w.heap.size + 1 < w12.heap.size := (by omega); have zz12_1 : w.heap.size + 1 + 1 < w12.heap.size := (by omega); (try have zA12 : wc.heap.size < w12.heap.size := (by omega)); (try have zB12 : w11.heap.size < w12.heap.size := (by omega)); (try have zC12 : w10.heap.size < w12.heap.size := (by omega))))
    all_goals
      go_wp2_with (first | fail | (go_at_call 27; (with_reducible refine (HBe.out _ _ _ _ (Kd.C_below (R_C HV12.out).1 bel) (R_C HV12.out).2).mono ?_); rintro r w20 ⟨rfl, b20⟩; obtain ⟨hc20, hf20⟩ := bcell b20; have hz20 := below_size b20; (try simp at hz20); have zz20_0 : w.heap.size + 1 < w20.heap.size := (by omega); have zz20_1 : w.heap.size + 1 + 1 < w20.heap.size := (by omega)))
      go_region
      go_wp2_with fail
      all_goals exact bodyPost_ret (v := .tuple #[.slice none 0 0, .int .i64 (L + (E : Nat)), .bool false]) (by simp [results, Tryd.results112, go_sem, *]) rfl ⟨_, rfl, by rw [ofN_zero]; exact Kd.R_nil _ _ _ _ _, bel⟩
set_option maxHeartbeats 8000000 in
theorem pnum_bt {P L H : Int} {wn tn G n E b M C : Nat} {hi lo : Int} (w : World)
    (hwn : wn ≤ 12) (htn : tn ≤ 110) (hE : E ≤ 100000) (hL : -100000 ≤ L ∧ L ≤ 0)
    (t3 : ((G : Int) / 2 ^ (wn + 3) == 3) = true) (e1 : (G : Int) / 2 ^ (wn + 3) = 3) (e2 : bits .and .u64 (G : Int) 1 = (b : Nat)) (e3 : bits .or .u64 8 (b : Nat) = (n : Nat)) (e7 : IntKind.u64.wrap (2 ^ ((wn : Int) + 2).toNat) = (2 : Int) ^ (wn + 2)) (e8 : IntKind.u64.wrap ((2 : Int) ^ (wn + 2) - 1) = ((2 ^ (wn + 2) - 1 : Nat) : Int)) (e9 : bits .and .u64 ((G : Int) / 2) ((2 ^ (wn + 2) - 1 : Nat) : Int) = (E : Nat))
    (HLf : Hid (∀ w', Calls Tryd.prog 22 #[wV 0 (n : Nat), .int .i64 (tn : Nat)] w' (GivesW M w')))
    (HJ : Hid (∀ h1 l1 w', Hid (Wd M h1 l1) → Calls Tryd.prog 21 #[wV h1 l1, wV hi lo] w' (GivesW C w')))
    (HNu : Hid (∀ h1 l1 w', Hid (Wd C h1 l1) → Calls Tryd.prog 102 #[wV h1 l1] w' (NewRow w' (ofN C))))
    (HBe : Hid (∀ A n c w', Kd.C (Kd.int .u32) w' A n (ofN C) → n ≤ c → Calls Tryd.prog 27 #[.slice A n c, .int .i64 P] w' fun r w'' => r = .returned (.bool true) ∧ Below w'.heap.size w' w'')) :
    Calls Tryd.prog 112 #[.agg #[], fV P L H (wn : Nat) (tn : Nat), .int .u64 (G : Nat), wV hi lo] w (NumP C (L + (E : Nat)) true w) := by
  have h3 : decide ((wn : Int) + 3 < 0) = false := decide_eq_false (by omega)
  have h2 : decide ((wn : Int) + 2 < 0) = false := decide_eq_false (by omega)
  have ew : IntKind.i64.wrap ((wn : Int) + 3) = (wn : Int) + 3 := by rw [IntKind.wrap_i64]; omega
  have ew2 : IntKind.i64.wrap ((wn : Int) + 2) = (wn : Int) + 2 := by rw [IntKind.wrap_i64]; omega
  go_enter Tryd.func112, Tryd.ntmps112
  go_upto_region 1 with fail
  go_cut [5, 7, 8, 9, 10, 11, 12] (fun v_5 v_7 v_8 v_9 v_10 v_11 v_12 wx => ∃ y1 y2 : Int, v_5 = .pointer (some ⟨w.heap.size + 1, 0, none⟩) ∧ BlkIs wx (w.heap.size + 1) 55 (· = #[.int .i64 P, .int .i64 L, .int .i64 H, .int .i64 (wn : Nat), .int .i64 (tn : Nat)]) ∧ v_7 = .pointer (some ⟨w.heap.size + 1 + 1, 0, none⟩) ∧ BlkIs wx (w.heap.size + 1 + 1) 59 (· = #[.int .u64 hi, .int .u64 lo]) ∧ v_8 = .slice none 0 0 ∧ v_9 = .int .i64 0 ∧ v_10 = .bool false ∧ v_11 = .int .u64 y1 ∧ v_12 = .int .u64 y2 ∧ Below w.heap.size w wx)
  case first =>
    go_wp2_with (first | fail)
    go_meet
    exact ⟨_, _, rfl, blk0, rfl, blk0, rfl, rfl, rfl, (by first | rfl | (simp [*]; done)), (by first | rfl | (simp [*]; done)), bel⟩
  case rest =>
    skip
    obtain ⟨y1, y2, rfl, HB5, rfl, HB7, rfl, rfl, rfl, rfl, rfl, hbw⟩ := hcut
    obtain ⟨cs5, hbk5, rfl⟩ := HB5
    obtain ⟨cs7, hbk7, rfl⟩ := HB7
    have f_0 : wc.cell? ⟨(w.heap.size + 1), 0, none⟩ = some (.int .i64 P) := by simpa using blk_cell hbk5 0
    have f_1 : wc.cell? ⟨(w.heap.size + 1), 1, none⟩ = some (.int .i64 L) := by simpa using blk_cell hbk5 1
    have f_2 : wc.cell? ⟨(w.heap.size + 1), 2, none⟩ = some (.int .i64 H) := by simpa using blk_cell hbk5 2
    have f_3 : wc.cell? ⟨(w.heap.size + 1), 3, none⟩ = some (.int .i64 (wn : Nat)) := by simpa using blk_cell hbk5 3
    have f_4 : wc.cell? ⟨(w.heap.size + 1), 4, none⟩ = some (.int .i64 (tn : Nat)) := by simpa using blk_cell hbk5 4
    have f_z : (w.heap.size + 1) < wc.heap.size := blk_lt hbk5
    have d_0 : wc.cell? ⟨(w.heap.size + 1 + 1), 0, none⟩ = some (.int .u64 hi) := by simpa using blk_cell hbk7 0
    have d_1 : wc.cell? ⟨(w.heap.size + 1 + 1), 1, none⟩ = some (.int .u64 lo) := by simpa using blk_cell hbk7 1
    have d_z : (w.heap.size + 1 + 1) < wc.heap.size := blk_lt hbk7
    go_wp2_with fail
    go_region
    go_wp2_with fail
    go_region_held3 (fun w' => Below (wc).heap.size (wc) w' ∧ ∀ b o, b < (wc).heap.size → w'.cell? ⟨b, o, none⟩ = (wc).cell? ⟨b, o, none⟩) (first | ((try go_split_ands); refine below_S ?_; ((repeat (first | with_reducible assumption | with_reducible exact Below.refl _ _ | with_reducible refine below_alloc ?_ _ | with_reducible refine pw_below_drewN ?_ _ | with_reducible refine below_drew1 ?_ | ((with_reducible refine below_set ?_ ?hle); (case hle => first | (simp; done) | omega | (simp; omega))) | with_reducible refine below_step ?_ (by with_reducible assumption))); done))) (first | (go_at_call 22; (with_reducible refine (HLf.out _).mono ?_); rintro r w10 ⟨hi10, lo10, rfl, hw10, b10⟩; obtain ⟨hc10, hf10⟩ := bcell b10; (try simp only [dr_size, dr_cell] at hc10); (try simp only [dr_size, dr_frozen] at hf10); have hz10 := below_size b10; (try simp at hz10); have zz10_0 : w.heap.size + 1 < w10.heap.size := (by omega); have zz10_1 : w.heap.size + 1 + 1 < w10.heap.size := (by omega); (try have zA10 : wc.heap.size < w10.heap.size := (by omega))) | (go_at_call 21; (with_reducible refine (HJ.out _ _ _ hw10).mono ?_); rintro r w11 ⟨hi11, lo11, rfl, hw11, b11⟩; obtain ⟨hc11, hf11⟩ := bcell b11; (try simp only [dr_size, dr_cell] at hc11); (try simp only [dr_size, dr_frozen] at hf11); have hz11 := below_size b11; (try simp at hz11); have zz11_0 : w.heap.size + 1 < w11.heap.size := (by omega); have zz11_1 : w.heap.size + 1 + 1 < w11.heap.size := (by omega); (try have zA11 : wc.heap.size < w11.heap.size := (by omega)); (try have zB11 : w10.heap.size < w11.heap.size := (by omega))) | (go_at_call 102; (with_reducible refine (HNu.out _ _ _ hw11).mono ?_); rintro r w12 ⟨v12, rfl, hv12, b12⟩; obtain ⟨A12, c12, rfl⟩ := Kd.R_slice hv12; have HV12 := Lib.hid hv12; clear hv12; obtain ⟨hc12, hf12⟩ := bcell b12; (try simp only [dr_size, dr_cell] at hc12); (try simp only [dr_size, dr_frozen] at hf12); have hz12 := below_size b12; (try simp at hz12); have zz12_0 : w.heap.size + 1 < w12.heap.size := (by omega); have zz12_1 : w.heap.size + 1 + 1 < w12.heap.size := (by omega); (try have zA12 : wc.heap.size < w12.heap.size := (by omega)); (try have zB12 : w11.heap.size < w12.heap.size := (by omega)); (try have zC12 : w10.heap.size < w12.heap.size := (by omega))))
    all_goals
      go_wp2_with (first | fail | (go_at_call 27; (with_reducible refine (HBe.out _ _ _ _ (Kd.C_below (R_C HV12.out).1 bel) (R_C HV12.out).2).mono ?_); rintro r w20 ⟨rfl, b20⟩; obtain ⟨hc20, hf20⟩ := bcell b20; have hz20 := below_size b20; (try simp at hz20); have zz20_0 : w.heap.size + 1 < w20.heap.size := (by omega); have zz20_1 : w.heap.size + 1 + 1 < w20.heap.size := (by omega)))
      go_region
      go_wp2_with fail
      all_goals exact bodyPost_ret (v := .tuple #[.slice A12 (ofN C).length c12, .int .i64 (L + (E : Nat)), .bool true]) (by simp [results, Tryd.results112, go_sem, *]) rfl ⟨_, rfl, Kd.R_lower (Kd.R_below HV12.out bel) (by first | omega | (simp; done) | (simp; omega)), bel⟩
set_option maxHeartbeats 8000000 in
theorem pnum_bf {P L H : Int} {wn tn G n E b M C : Nat} {hi lo : Int} (w : World)
    (hwn : wn ≤ 12) (htn : tn ≤ 110) (hE : E ≤ 100000) (hL : -100000 ≤ L ∧ L ≤ 0)
    (t3 : ((G : Int) / 2 ^ (wn + 3) == 3) = true) (e1 : (G : Int) / 2 ^ (wn + 3) = 3) (e2 : bits .and .u64 (G : Int) 1 = (b : Nat)) (e3 : bits .or .u64 8 (b : Nat) = (n : Nat)) (e7 : IntKind.u64.wrap (2 ^ ((wn : Int) + 2).toNat) = (2 : Int) ^ (wn + 2)) (e8 : IntKind.u64.wrap ((2 : Int) ^ (wn + 2) - 1) = ((2 ^ (wn + 2) - 1 : Nat) : Int)) (e9 : bits .and .u64 ((G : Int) / 2) ((2 ^ (wn + 2) - 1 : Nat) : Int) = (E : Nat))
    (HLf : Hid (∀ w', Calls Tryd.prog 22 #[wV 0 (n : Nat), .int .i64 (tn : Nat)] w' (GivesW M w')))
    (HJ : Hid (∀ h1 l1 w', Hid (Wd M h1 l1) → Calls Tryd.prog 21 #[wV h1 l1, wV hi lo] w' (GivesW C w')))
    (HNu : Hid (∀ h1 l1 w', Hid (Wd C h1 l1) → Calls Tryd.prog 102 #[wV h1 l1] w' (NewRow w' (ofN C))))
    (HBe : Hid (∀ A n c w', Kd.C (Kd.int .u32) w' A n (ofN C) → n ≤ c → Calls Tryd.prog 27 #[.slice A n c, .int .i64 P] w' fun r w'' => r = .returned (.bool false) ∧ Below w'.heap.size w' w'')) :
    Calls Tryd.prog 112 #[.agg #[], fV P L H (wn : Nat) (tn : Nat), .int .u64 (G : Nat), wV hi lo] w (NumP 0 (L + (E : Nat)) false w) := by
  have h3 : decide ((wn : Int) + 3 < 0) = false := decide_eq_false (by omega)
  have h2 : decide ((wn : Int) + 2 < 0) = false := decide_eq_false (by omega)
  have ew : IntKind.i64.wrap ((wn : Int) + 3) = (wn : Int) + 3 := by rw [IntKind.wrap_i64]; omega
  have ew2 : IntKind.i64.wrap ((wn : Int) + 2) = (wn : Int) + 2 := by rw [IntKind.wrap_i64]; omega
  go_enter Tryd.func112, Tryd.ntmps112
  go_upto_region 1 with fail
  go_cut [5, 7, 8, 9, 10, 11, 12] (fun v_5 v_7 v_8 v_9 v_10 v_11 v_12 wx => ∃ y1 y2 : Int, v_5 = .pointer (some ⟨w.heap.size + 1, 0, none⟩) ∧ BlkIs wx (w.heap.size + 1) 55 (· = #[.int .i64 P, .int .i64 L, .int .i64 H, .int .i64 (wn : Nat), .int .i64 (tn : Nat)]) ∧ v_7 = .pointer (some ⟨w.heap.size + 1 + 1, 0, none⟩) ∧ BlkIs wx (w.heap.size + 1 + 1) 59 (· = #[.int .u64 hi, .int .u64 lo]) ∧ v_8 = .slice none 0 0 ∧ v_9 = .int .i64 0 ∧ v_10 = .bool false ∧ v_11 = .int .u64 y1 ∧ v_12 = .int .u64 y2 ∧ Below w.heap.size w wx)
  case first =>
    go_wp2_with (first | fail)
    go_meet
    exact ⟨_, _, rfl, blk0, rfl, blk0, rfl, rfl, rfl, (by first | rfl | (simp [*]; done)), (by first | rfl | (simp [*]; done)), bel⟩
  case rest =>
    skip
    obtain ⟨y1, y2, rfl, HB5, rfl, HB7, rfl, rfl, rfl, rfl, rfl, hbw⟩ := hcut
    obtain ⟨cs5, hbk5, rfl⟩ := HB5
    obtain ⟨cs7, hbk7, rfl⟩ := HB7
    have f_0 : wc.cell? ⟨(w.heap.size + 1), 0, none⟩ = some (.int .i64 P) := by simpa using blk_cell hbk5 0
    have f_1 : wc.cell? ⟨(w.heap.size + 1), 1, none⟩ = some (.int .i64 L) := by simpa using blk_cell hbk5 1
    have f_2 : wc.cell? ⟨(w.heap.size + 1), 2, none⟩ = some (.int .i64 H) := by simpa using blk_cell hbk5 2
    have f_3 : wc.cell? ⟨(w.heap.size + 1), 3, none⟩ = some (.int .i64 (wn : Nat)) := by simpa using blk_cell hbk5 3
    have f_4 : wc.cell? ⟨(w.heap.size + 1), 4, none⟩ = some (.int .i64 (tn : Nat)) := by simpa using blk_cell hbk5 4
    have f_z : (w.heap.size + 1) < wc.heap.size := blk_lt hbk5
    have d_0 : wc.cell? ⟨(w.heap.size + 1 + 1), 0, none⟩ = some (.int .u64 hi) := by simpa using blk_cell hbk7 0
    have d_1 : wc.cell? ⟨(w.heap.size + 1 + 1), 1, none⟩ = some (.int .u64 lo) := by simpa using blk_cell hbk7 1
    have d_z : (w.heap.size + 1 + 1) < wc.heap.size := blk_lt hbk7
    go_wp2_with fail
    go_region
    go_wp2_with fail
    go_region_held3 (fun w' => Below (wc).heap.size (wc) w' ∧ ∀ b o, b < (wc).heap.size → w'.cell? ⟨b, o, none⟩ = (wc).cell? ⟨b, o, none⟩) (first | ((try go_split_ands); refine below_S ?_; ((repeat (first | with_reducible assumption | with_reducible exact Below.refl _ _ | with_reducible refine below_alloc ?_ _ | with_reducible refine pw_below_drewN ?_ _ | with_reducible refine below_drew1 ?_ | ((with_reducible refine below_set ?_ ?hle); (case hle => first | (simp; done) | omega | (simp; omega))) | with_reducible refine below_step ?_ (by with_reducible assumption))); done))) (first | (go_at_call 22; (with_reducible refine (HLf.out _).mono ?_); rintro r w10 ⟨hi10, lo10, rfl, hw10, b10⟩; obtain ⟨hc10, hf10⟩ := bcell b10; (try simp only [dr_size, dr_cell] at hc10); (try simp only [dr_size, dr_frozen] at hf10); have hz10 := below_size b10; (try simp at hz10); have zz10_0 : w.heap.size + 1 < w10.heap.size := (by omega); have zz10_1 : w.heap.size + 1 + 1 < w10.heap.size := (by omega); (try have zA10 : wc.heap.size < w10.heap.size := (by omega))) | (go_at_call 21; (with_reducible refine (HJ.out _ _ _ hw10).mono ?_); rintro r w11 ⟨hi11, lo11, rfl, hw11, b11⟩; obtain ⟨hc11, hf11⟩ := bcell b11; (try simp only [dr_size, dr_cell] at hc11); (try simp only [dr_size, dr_frozen] at hf11); have hz11 := below_size b11; (try simp at hz11); have zz11_0 : w.heap.size + 1 < w11.heap.size := (by omega); have zz11_1 : w.heap.size + 1 + 1 < w11.heap.size := (by omega); (try have zA11 : wc.heap.size < w11.heap.size := (by omega)); (try have zB11 : w10.heap.size < w11.heap.size := (by omega))) | (go_at_call 102; (with_reducible refine (HNu.out _ _ _ hw11).mono ?_); rintro r w12 ⟨v12, rfl, hv12, b12⟩; obtain ⟨A12, c12, rfl⟩ := Kd.R_slice hv12; have HV12 := Lib.hid hv12; clear hv12; obtain ⟨hc12, hf12⟩ := bcell b12; (try simp only [dr_size, dr_cell] at hc12); (try simp only [dr_size, dr_frozen] at hf12); have hz12 := below_size b12; (try simp at hz12); have zz12_0 : w.heap.size + 1 < w12.heap.size := (by omega); have zz12_1 : w.heap.size + 1 + 1 < w12.heap.size := (by omega); (try have zA12 : wc.heap.size < w12.heap.size := (by omega)); (try have zB12 : w11.heap.size < w12.heap.size := (by omega)); (try have zC12 : w10.heap.size < w12.heap.size := (by omega))))
    all_goals
      go_wp2_with (first | fail | (go_at_call 27; (with_reducible refine (HBe.out _ _ _ _ (Kd.C_below (R_C HV12.out).1 bel) (R_C HV12.out).2).mono ?_); rintro r w20 ⟨rfl, b20⟩; obtain ⟨hc20, hf20⟩ := bcell b20; have hz20 := below_size b20; (try simp at hz20); have zz20_0 : w.heap.size + 1 < w20.heap.size := (by omega); have zz20_1 : w.heap.size + 1 + 1 < w20.heap.size := (by omega)))
      go_region
      go_wp2_with fail
      all_goals exact bodyPost_ret (v := .tuple #[.slice none 0 0, .int .i64 (L + (E : Nat)), .bool false]) (by simp [results, Tryd.results112, go_sem, *]) rfl ⟨_, rfl, by rw [ofN_zero]; exact Kd.R_nil _ _ _ _ _, bel⟩
end Go.Proofs.YtiplbpfdkcddlaaDoor
