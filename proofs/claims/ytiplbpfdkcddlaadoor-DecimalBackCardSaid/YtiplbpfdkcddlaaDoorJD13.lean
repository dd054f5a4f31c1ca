/- decimal: finite of the binary form: its walk. General: a function that defers and ranges over a function ('for x := range seq'), in the plain calculus; the iterator may panic. General: one round of a range over a function, in the plain calculus' fence. decimal: the members of a cohort one by one: the iterators that yield them, against any yield that goes on. -/
import Derived.Test.YtiplbpfdkcddlaaDoorJD12
import Derived.Test.YtiplbpfdkcddlaaDoorJD3
import Derived.RangeFuncLeaves
import Derived.RangeFuncOwn
import Derived.TacticsIn
import Derived.BigFrameIn
import Derived.LoopIn
import Derived.OwnWalkIn
import Derived.RangeFuncBox
import Derived.Test.YtiplbpfdkcddlaaDoorJD9
import Derived.Test.YtiplbpfdkcddlaaDoorJD8
import Derived.Test.YtiplbpfdkcddlaaDoorJD7
set_option linter.unusedSimpArgs false
set_option linter.unusedVariables false
set_option linter.unnecessarySimpa false
namespace Go.Proofs.YtiplbpfdkcddlaaDoor
open Go.RowKit Go.Proofs.YtiplbpfdkcddlaaDoorW.PrintWords Go.Proofs.YtiplbpfdkcddlaaDoorW.PrintLast Go.Proofs.YtiplbpfdkcddlaaDoorW.PrintMore Go.Proofs.YtiplbpfdkcddlaaDoor.NL
set_option maxRecDepth 100000
set_option exponentiation.threshold 33000

/-- The combination, and the trailing bits. -/
def FinP (G T : Nat) (w : World) (r : Ending) (w' : World) : Prop := ∃ hi lo : Int, r = .returned (.tuple #[.int .u64 (G : Nat), wV hi lo]) ∧ Hid (Wd T hi lo) ∧ Below w.heap.size w w'
set_option maxHeartbeats 8000000 in
theorem pfin_a {ex P L H : Int} {wn tn x n T E G nl c : Nat} {A : Option Addr} {l : List Int} (w : World)
    (hA : Kd.C (Kd.int .u32) w A nl l) (hn64 : n < 2 ^ 64) (htn : tn ≤ 110) (hwn : wn ≤ 12)
    (HWo : Hid (∀ w', Kd.C (Kd.int .u32) w' A nl l → Calls Tryd.prog 115 #[.slice A nl c] w' (GivesW x w')))
    (HRi : Hid (∀ hi lo w', Hid (Wd x hi lo) → Calls Tryd.prog 25 #[wV hi lo, .int .i64 (tn : Nat)] w' (GivesW n w')))
    (HLo : Hid (∀ hi lo w', Hid (Wd x hi lo) → Calls Tryd.prog 23 #[wV hi lo, .int .i64 (tn : Nat)] w' (GivesW T w')))
    (hE : IntKind.u64.wrap (IntKind.i64.wrap (ex - L)) = (E : Nat)) (hE2 : IntKind.u64.wrap (wrap64 (ex - L)) = (E : Nat)) (hE3 : IntKind.u64.wrap (ex - L) = (E : Nat)) (hE4 : IntKind.i64.wrap (ex - L) = ex - L) (hE5 : wrap64 (ex - L) = ex - L)
    (hn8 : decide ((n : Int) < 8) = true) (hG : bits .or .u64 (IntKind.u64.wrap ((E : Int) * 8)) (n : Nat) = (G : Nat)) :
    Calls Tryd.prog 111 #[.agg #[], fV P L H (wn : Nat) (tn : Nat), .slice A nl c, .int .i64 ex] w (FinP G T w) := by
  have HC := Lib.hid hA
  clear hA
  have hfl := field_lo
  have h3 : decide ((wn : Int) + 3 < 0) = false := decide_eq_false (by omega)
  have ew : IntKind.i64.wrap ((wn : Int) + 3) = (wn : Int) + 3 := by rw [IntKind.wrap_i64]; omega
  go_enter Tryd.func111, Tryd.ntmps111
  go_upto_region 1 with (first | fail | (go_at_call 115; (with_reducible refine (HWo.out _ (Kd.C_below HC.out bel)).mono ?_); rintro r w1 ⟨hi1, lo1, rfl, hw1, b1⟩; obtain ⟨hc1, hf1⟩ := bcell b1; have hz1 := below_size b1; (try simp at hz1); have zz1_0 : w.heap.size + 1 < w1.heap.size := (by omega); have zz1_1 : w.heap.size + 1 + 1 < w1.heap.size := (by omega)))
  go_cut [5, 8, 9, 10] (fun v_5 v_8 v_9 v_10 wx => ∃ (p10 : Nat) (hi lo : Int), v_5 = .pointer (some ⟨w.heap.size + 1, 0, none⟩) ∧ BlkIs wx (w.heap.size + 1) 55 (· = #[.int .i64 P, .int .i64 L, .int .i64 H, .int .i64 (wn : Nat), .int .i64 (tn : Nat)]) ∧ v_8 = .int .u64 0 ∧ v_9 = .pointer (some ⟨w.heap.size + 1 + 1, 0, none⟩) ∧ BlkIs wx (w.heap.size + 1 + 1) 59 (· = #[.int .u64 0, .int .u64 0]) ∧ v_10 = .pointer (some ⟨p10, 0, none⟩) ∧ BlkIs wx p10 59 (· = #[.int .u64 hi, .int .u64 lo]) ∧ w.heap.size + 1 + 1 < p10 ∧ Hid (Wd x hi lo) ∧ Below w.heap.size w wx)
  case first =>
    go_wp2_with (first | fail | (go_at_call 115; (with_reducible refine (HWo.out _ (Kd.C_below HC.out bel)).mono ?_); rintro r w1 ⟨hi1, lo1, rfl, hw1, b1⟩; obtain ⟨hc1, hf1⟩ := bcell b1; have hz1 := below_size b1; (try simp at hz1); have zz1_0 : w.heap.size + 1 < w1.heap.size := (by omega); have zz1_1 : w.heap.size + 1 + 1 < w1.heap.size := (by omega)))
    go_meet
    exact ⟨_, _, _, rfl, blk0, rfl, rfl, blk0, rfl, blk0, (by first | assumption | omega | (simp; done) | (simp; omega)), hw1, bel⟩
  case rest =>
    skip
    obtain ⟨p10, hi, lo, rfl, HB5, rfl, rfl, HB9, rfl, HB10, hp10, hWx, hbw⟩ := hcut
    obtain ⟨cs5, hbk5, rfl⟩ := HB5
    obtain ⟨cs9, hbk9, rfl⟩ := HB9
    obtain ⟨cs10, hbk10, rfl⟩ := HB10
    have f_0 : wc.cell? ⟨(w.heap.size + 1), 0, none⟩ = some (.int .i64 P) := by simpa using blk_cell hbk5 0
    have f_1 : wc.cell? ⟨(w.heap.size + 1), 1, none⟩ = some (.int .i64 L) := by simpa using blk_cell hbk5 1
    have f_2 : wc.cell? ⟨(w.heap.size + 1), 2, none⟩ = some (.int .i64 H) := by simpa using blk_cell hbk5 2
    have f_3 : wc.cell? ⟨(w.heap.size + 1), 3, none⟩ = some (.int .i64 (wn : Nat)) := by simpa using blk_cell hbk5 3
    have f_4 : wc.cell? ⟨(w.heap.size + 1), 4, none⟩ = some (.int .i64 (tn : Nat)) := by simpa using blk_cell hbk5 4
    have f_z : (w.heap.size + 1) < wc.heap.size := blk_lt hbk5
    have z_0 : wc.cell? ⟨(w.heap.size + 1 + 1), 0, none⟩ = some (.int .u64 0) := by simpa using blk_cell hbk9 0
    have z_f0 : wc.frozen? ⟨(w.heap.size + 1 + 1), 0, none⟩ = false := blk_frozen hbk9 0
    have z_1 : wc.cell? ⟨(w.heap.size + 1 + 1), 1, none⟩ = some (.int .u64 0) := by simpa using blk_cell hbk9 1
    have z_f1 : wc.frozen? ⟨(w.heap.size + 1 + 1), 1, none⟩ = false := blk_frozen hbk9 1
    have z_z : (w.heap.size + 1 + 1) < wc.heap.size := blk_lt hbk9
    have d_0 : wc.cell? ⟨p10, 0, none⟩ = some (.int .u64 hi) := by simpa using blk_cell hbk10 0
    have d_1 : wc.cell? ⟨p10, 1, none⟩ = some (.int .u64 lo) := by simpa using blk_cell hbk10 1
    have d_z : p10 < wc.heap.size := blk_lt hbk10
    go_wp2_with fail
    go_region_held3 (fun w' => Below (wc).heap.size (wc) w' ∧ ∀ b o, b < (wc).heap.size → w'.cell? ⟨b, o, none⟩ = (wc).cell? ⟨b, o, none⟩) (first | ((try go_split_ands); refine below_S ?_; ((repeat (first | with_reducible assumption | with_reducible exact Below.refl _ _ | with_reducible refine below_alloc ?_ _ | with_reducible refine pw_below_drewN ?_ _ | with_reducible refine below_drew1 ?_ | ((with_reducible refine below_set ?_ ?hle); (case hle => first | (simp; done) | omega | (simp; omega))) | with_reducible refine below_step ?_ (by with_reducible assumption))); done))) (first | (go_at_call 25; (with_reducible refine (HRi.out _ _ _ hWx).mono ?_); rintro r w10 ⟨hi10, lo10, rfl, hw10, b10⟩; obtain ⟨hc10, hf10⟩ := bcell b10; (try simp only [dr_size, dr_cell] at hc10); (try simp only [dr_size, dr_frozen] at hf10); have hz10 := below_size b10; (try simp at hz10); have zz10_0 : w.heap.size + 1 < w10.heap.size := (by omega); have zz10_1 : w.heap.size + 1 + 1 < w10.heap.size := (by omega); have zz10_2 : p10 < w10.heap.size := (by omega); obtain rfl : lo10 = (n : Int) := wd_lo hw10.out hn64))
    all_goals
      go_upto_region 3 with fail
      go_cut [5, 8, 9, 10, 11, 12, 26] (fun v_5 v_8 v_9 v_10 v_11 v_12 v_26 wx => ∃ (p10 : Nat) (hi lo : Int), v_5 = .pointer (some ⟨w.heap.size + 1, 0, none⟩) ∧ BlkIs wx (w.heap.size + 1) 55 (· = #[.int .i64 P, .int .i64 L, .int .i64 H, .int .i64 (wn : Nat), .int .i64 (tn : Nat)]) ∧ v_8 = .int .u64 0 ∧ v_9 = .pointer (some ⟨w.heap.size + 1 + 1, 0, none⟩) ∧ BlkIs wx (w.heap.size + 1 + 1) 59 (· = #[.int .u64 0, .int .u64 0]) ∧ v_10 = .pointer (some ⟨p10, 0, none⟩) ∧ BlkIs wx p10 59 (· = #[.int .u64 hi, .int .u64 lo]) ∧ v_11 = .int .u64 (n : Nat) ∧ v_12 = .int .u64 (E : Nat) ∧ v_26 = .bool true ∧ w.heap.size + 1 + 1 < p10 ∧ Hid (Wd x hi lo) ∧ Below w.heap.size w wx)
      case first =>
        go_wp2_with (first | fail)
        go_meet
        exact ⟨_, _, _, rfl, blk1, rfl, rfl, blk1, rfl, blk1, (by first | rfl | (simp; done)), (by first | rfl | (simp; done) | (simp [hE2, hE3]; done)), (by first | rfl | exact congrArg _ hn8 | (simp [hn8]; done)), (by first | assumption | omega | (simp; done) | (simp; omega)), hWx, bel⟩
      case rest =>
        skip
        clear f_0 f_1 f_2 f_3 f_4 f_z z_0 z_1 z_f0 z_f1 z_z d_0 d_1 d_z hbk5 hbk9 hbk10
        obtain ⟨p10, hi, lo, rfl, HB5, rfl, rfl, HB9, rfl, HB10, rfl, rfl, rfl, hp10, hWx, hbw⟩ := hcut
        obtain ⟨cs5, hbk5, rfl⟩ := HB5
        obtain ⟨cs9, hbk9, rfl⟩ := HB9
        obtain ⟨cs10, hbk10, rfl⟩ := HB10
        have f_0 : wc.cell? ⟨(w.heap.size + 1), 0, none⟩ = some (.int .i64 P) := by simpa using blk_cell hbk5 0
        have f_1 : wc.cell? ⟨(w.heap.size + 1), 1, none⟩ = some (.int .i64 L) := by simpa using blk_cell hbk5 1
        have f_2 : wc.cell? ⟨(w.heap.size + 1), 2, none⟩ = some (.int .i64 H) := by simpa using blk_cell hbk5 2
        have f_3 : wc.cell? ⟨(w.heap.size + 1), 3, none⟩ = some (.int .i64 (wn : Nat)) := by simpa using blk_cell hbk5 3
        have f_4 : wc.cell? ⟨(w.heap.size + 1), 4, none⟩ = some (.int .i64 (tn : Nat)) := by simpa using blk_cell hbk5 4
        have f_z : (w.heap.size + 1) < wc.heap.size := blk_lt hbk5
        have z_0 : wc.cell? ⟨(w.heap.size + 1 + 1), 0, none⟩ = some (.int .u64 0) := by simpa using blk_cell hbk9 0
        have z_f0 : wc.frozen? ⟨(w.heap.size + 1 + 1), 0, none⟩ = false := blk_frozen hbk9 0
        have z_1 : wc.cell? ⟨(w.heap.size + 1 + 1), 1, none⟩ = some (.int .u64 0) := by simpa using blk_cell hbk9 1
        have z_f1 : wc.frozen? ⟨(w.heap.size + 1 + 1), 1, none⟩ = false := blk_frozen hbk9 1
        have z_z : (w.heap.size + 1 + 1) < wc.heap.size := blk_lt hbk9
        have d_0 : wc.cell? ⟨p10, 0, none⟩ = some (.int .u64 hi) := by simpa using blk_cell hbk10 0
        have d_1 : wc.cell? ⟨p10, 1, none⟩ = some (.int .u64 lo) := by simpa using blk_cell hbk10 1
        have d_z : p10 < wc.heap.size := blk_lt hbk10
        go_wp2_with (first | fail | (go_at_call 23; (with_reducible refine (HLo.out _ _ _ hWx).mono ?_); rintro r w20 ⟨hi20, lo20, rfl, hw20, b20⟩; obtain ⟨hc20, hf20⟩ := bcell b20; have hz20 := below_size b20; (try simp at hz20); have zz20_0 : w.heap.size + 1 < w20.heap.size := (by omega); have zz20_1 : w.heap.size + 1 + 1 < w20.heap.size := (by omega); have zz20_2 : p10 < w20.heap.size := (by omega)))

        all_goals exact bodyPost_ret (v := .tuple #[.int .u64 (G : Nat), wV hi20 lo20]) (by simp [results, Tryd.results111, go_sem, *]) rfl ⟨_, _, rfl, hw20, bel⟩
set_option maxHeartbeats 8000000 in
theorem pfin_b {ex P L H : Int} {wn tn x n T E G nl c : Nat} {A : Option Addr} {l : List Int} (w : World)
    (hA : Kd.C (Kd.int .u32) w A nl l) (hn64 : n < 2 ^ 64) (htn : tn ≤ 110) (hwn : wn ≤ 12)
    (HWo : Hid (∀ w', Kd.C (Kd.int .u32) w' A nl l → Calls Tryd.prog 115 #[.slice A nl c] w' (GivesW x w')))
    (HRi : Hid (∀ hi lo w', Hid (Wd x hi lo) → Calls Tryd.prog 25 #[wV hi lo, .int .i64 (tn : Nat)] w' (GivesW n w')))
    (HLo : Hid (∀ hi lo w', Hid (Wd x hi lo) → Calls Tryd.prog 23 #[wV hi lo, .int .i64 (tn : Nat)] w' (GivesW T w')))
    (hE : IntKind.u64.wrap (IntKind.i64.wrap (ex - L)) = (E : Nat)) (hE2 : IntKind.u64.wrap (wrap64 (ex - L)) = (E : Nat)) (hE3 : IntKind.u64.wrap (ex - L) = (E : Nat)) (hE4 : IntKind.i64.wrap (ex - L) = ex - L) (hE5 : wrap64 (ex - L) = ex - L)
    (hn8 : decide ((n : Int) < 8) = false) (hG : bits .or .u64 (bits .or .u64 (IntKind.u64.wrap (3 * 2 ^ ((wn : Int) + 3).toNat)) (IntKind.u64.wrap ((E : Int) * 2))) (bits .and .u64 (n : Int) 1) = (G : Nat)) :
    Calls Tryd.prog 111 #[.agg #[], fV P L H (wn : Nat) (tn : Nat), .slice A nl c, .int .i64 ex] w (FinP G T w) := by
  have HC := Lib.hid hA
  clear hA
  have hfl := field_lo
  have h3 : decide ((wn : Int) + 3 < 0) = false := decide_eq_false (by omega)
  have ew : IntKind.i64.wrap ((wn : Int) + 3) = (wn : Int) + 3 := by rw [IntKind.wrap_i64]; omega
  go_enter Tryd.func111, Tryd.ntmps111
  go_upto_region 1 with (first | fail | (go_at_call 115; (with_reducible refine (HWo.out _ (Kd.C_below HC.out bel)).mono ?_); rintro r w1 ⟨hi1, lo1, rfl, hw1, b1⟩; obtain ⟨hc1, hf1⟩ := bcell b1; have hz1 := below_size b1; (try simp at hz1); have zz1_0 : w.heap.size + 1 < w1.heap.size := (by omega); have zz1_1 : w.heap.size + 1 + 1 < w1.heap.size := (by omega)))
  go_cut [5, 8, 9, 10] (fun v_5 v_8 v_9 v_10 wx => ∃ (p10 : Nat) (hi lo : Int), v_5 = .pointer (some ⟨w.heap.size + 1, 0, none⟩) ∧ BlkIs wx (w.heap.size + 1) 55 (· = #[.int .i64 P, .int .i64 L, .int .i64 H, .int .i64 (wn : Nat), .int .i64 (tn : Nat)]) ∧ v_8 = .int .u64 0 ∧ v_9 = .pointer (some ⟨w.heap.size + 1 + 1, 0, none⟩) ∧ BlkIs wx (w.heap.size + 1 + 1) 59 (· = #[.int .u64 0, .int .u64 0]) ∧ v_10 = .pointer (some ⟨p10, 0, none⟩) ∧ BlkIs wx p10 59 (· = #[.int .u64 hi, .int .u64 lo]) ∧ w.heap.size + 1 + 1 < p10 ∧ Hid (Wd x hi lo) ∧ Below w.heap.size w wx)
  case first =>
    go_wp2_with (first | fail | (go_at_call 115; (with_reducible refine (HWo.out _ (Kd.C_below HC.out bel)).mono ?_); rintro r w1 ⟨hi1, lo1, rfl, hw1, b1⟩; obtain ⟨hc1, hf1⟩ := bcell b1; have hz1 := below_size b1; (try simp at hz1); have zz1_0 : w.heap.size + 1 < w1.heap.size := (by omega); have zz1_1 : w.heap.size + 1 + 1 < w1.heap.size := (by omega)))
    go_meet
    exact ⟨_, _, _, rfl, blk0, rfl, rfl, blk0, rfl, blk0, (by first | assumption | omega | (simp; done) | (simp; omega)), hw1, bel⟩
  case rest =>
    skip
    obtain ⟨p10, hi, lo, rfl, HB5, rfl, rfl, HB9, rfl, HB10, hp10, hWx, hbw⟩ := hcut
    obtain ⟨cs5, hbk5, rfl⟩ := HB5
    obtain ⟨cs9, hbk9, rfl⟩ := HB9
    obtain ⟨cs10, hbk10, rfl⟩ := HB10
    have f_0 : wc.cell? ⟨(w.heap.size + 1), 0, none⟩ = some (.int .i64 P) := by simpa using blk_cell hbk5 0
    have f_1 : wc.cell? ⟨(w.heap.size + 1), 1, none⟩ = some (.int .i64 L) := by simpa using blk_cell hbk5 1
    have f_2 : wc.cell? ⟨(w.heap.size + 1), 2, none⟩ = some (.int .i64 H) := by simpa using blk_cell hbk5 2
    have f_3 : wc.cell? ⟨(w.heap.size + 1), 3, none⟩ = some (.int .i64 (wn : Nat)) := by simpa using blk_cell hbk5 3
    have f_4 : wc.cell? ⟨(w.heap.size + 1), 4, none⟩ = some (.int .i64 (tn : Nat)) := by simpa using blk_cell hbk5 4
    have f_z : (w.heap.size + 1) < wc.heap.size := blk_lt hbk5
    have z_0 : wc.cell? ⟨(w.heap.size + 1 + 1), 0, none⟩ = some (.int .u64 0) := by simpa using blk_cell hbk9 0
    have z_f0 : wc.frozen? ⟨(w.heap.size + 1 + 1), 0, none⟩ = false := blk_frozen hbk9 0
    have z_1 : wc.cell? ⟨(w.heap.size + 1 + 1), 1, none⟩ = some (.int .u64 0) := by simpa using blk_cell hbk9 1
    have z_f1 : wc.frozen? ⟨(w.heap.size + 1 + 1), 1, none⟩ = false := blk_frozen hbk9 1
    have z_z : (w.heap.size + 1 + 1) < wc.heap.size := blk_lt hbk9
    have d_0 : wc.cell? ⟨p10, 0, none⟩ = some (.int .u64 hi) := by simpa using blk_cell hbk10 0
    have d_1 : wc.cell? ⟨p10, 1, none⟩ = some (.int .u64 lo) := by simpa using blk_cell hbk10 1
    have d_z : p10 < wc.heap.size := blk_lt hbk10
    go_wp2_with fail
    go_region_held3 (fun w' => Below (wc).heap.size (wc) w' ∧ ∀ b o, b < (wc).heap.size → w'.cell? ⟨b, o, none⟩ = (wc).cell? ⟨b, o, none⟩) (first | ((try go_split_ands); refine below_S ?_; ((repeat (first | with_reducible assumption | with_reducible exact Below.refl _ _ | with_reducible refine below_alloc ?_ _ | with_reducible refine pw_below_drewN ?_ _ | with_reducible refine below_drew1 ?_ | ((with_reducible refine below_set ?_ ?hle); (case hle => first | (simp; done) | omega | (simp; omega))) | with_reducible refine below_step ?_ (by with_reducible assumption))); done))) (first | (go_at_call 25; (with_reducible refine (HRi.out _ _ _ hWx).mono ?_); rintro r w10 ⟨hi10, lo10, rfl, hw10, b10⟩; obtain ⟨hc10, hf10⟩ := bcell b10; (try simp only [dr_size, dr_cell] at hc10); (try simp only [dr_size, dr_frozen] at hf10); have hz10 := below_size b10; (try simp at hz10); have zz10_0 : w.heap.size + 1 < w10.heap.size := (by omega); have zz10_1 : w.heap.size + 1 + 1 < w10.heap.size := (by omega); have zz10_2 : p10 < w10.heap.size := (by omega); obtain rfl : lo10 = (n : Int) := wd_lo hw10.out hn64))
    all_goals
      go_upto_region 3 with fail
      go_cut [5, 8, 9, 10, 11, 12, 26] (fun v_5 v_8 v_9 v_10 v_11 v_12 v_26 wx => ∃ (p10 : Nat) (hi lo : Int), v_5 = .pointer (some ⟨w.heap.size + 1, 0, none⟩) ∧ BlkIs wx (w.heap.size + 1) 55 (· = #[.int .i64 P, .int .i64 L, .int .i64 H, .int .i64 (wn : Nat), .int .i64 (tn : Nat)]) ∧ v_8 = .int .u64 0 ∧ v_9 = .pointer (some ⟨w.heap.size + 1 + 1, 0, none⟩) ∧ BlkIs wx (w.heap.size + 1 + 1) 59 (· = #[.int .u64 0, .int .u64 0]) ∧ v_10 = .pointer (some ⟨p10, 0, none⟩) ∧ BlkIs wx p10 59 (· = #[.int .u64 hi, .int .u64 lo]) ∧ v_11 = .int .u64 (n : Nat) ∧ v_12 = .int .u64 (E : Nat) ∧ v_26 = .bool false ∧ w.heap.size + 1 + 1 < p10 ∧ Hid (Wd x hi lo) ∧ Below w.heap.size w wx)
      case first =>
        go_wp2_with (first | fail)
        go_meet
        exact ⟨_, _, _, rfl, blk1, rfl, rfl, blk1, rfl, blk1, (by first | rfl | (simp; done)), (by first | rfl | (simp; done) | (simp [hE2, hE3]; done)), (by first | rfl | exact congrArg _ hn8 | (simp [hn8]; done)), (by first | assumption | omega | (simp; done) | (simp; omega)), hWx, bel⟩
      case rest =>
        skip
        clear f_0 f_1 f_2 f_3 f_4 f_z z_0 z_1 z_f0 z_f1 z_z d_0 d_1 d_z hbk5 hbk9 hbk10
        obtain ⟨p10, hi, lo, rfl, HB5, rfl, rfl, HB9, rfl, HB10, rfl, rfl, rfl, hp10, hWx, hbw⟩ := hcut
        obtain ⟨cs5, hbk5, rfl⟩ := HB5
        obtain ⟨cs9, hbk9, rfl⟩ := HB9
        obtain ⟨cs10, hbk10, rfl⟩ := HB10
        have f_0 : wc.cell? ⟨(w.heap.size + 1), 0, none⟩ = some (.int .i64 P) := by simpa using blk_cell hbk5 0
        have f_1 : wc.cell? ⟨(w.heap.size + 1), 1, none⟩ = some (.int .i64 L) := by simpa using blk_cell hbk5 1
        have f_2 : wc.cell? ⟨(w.heap.size + 1), 2, none⟩ = some (.int .i64 H) := by simpa using blk_cell hbk5 2
        have f_3 : wc.cell? ⟨(w.heap.size + 1), 3, none⟩ = some (.int .i64 (wn : Nat)) := by simpa using blk_cell hbk5 3
        have f_4 : wc.cell? ⟨(w.heap.size + 1), 4, none⟩ = some (.int .i64 (tn : Nat)) := by simpa using blk_cell hbk5 4
        have f_z : (w.heap.size + 1) < wc.heap.size := blk_lt hbk5
        have z_0 : wc.cell? ⟨(w.heap.size + 1 + 1), 0, none⟩ = some (.int .u64 0) := by simpa using blk_cell hbk9 0
        have z_f0 : wc.frozen? ⟨(w.heap.size + 1 + 1), 0, none⟩ = false := blk_frozen hbk9 0
        have z_1 : wc.cell? ⟨(w.heap.size + 1 + 1), 1, none⟩ = some (.int .u64 0) := by simpa using blk_cell hbk9 1
        have z_f1 : wc.frozen? ⟨(w.heap.size + 1 + 1), 1, none⟩ = false := blk_frozen hbk9 1
        have z_z : (w.heap.size + 1 + 1) < wc.heap.size := blk_lt hbk9
        have d_0 : wc.cell? ⟨p10, 0, none⟩ = some (.int .u64 hi) := by simpa using blk_cell hbk10 0
        have d_1 : wc.cell? ⟨p10, 1, none⟩ = some (.int .u64 lo) := by simpa using blk_cell hbk10 1
        have d_z : p10 < wc.heap.size := blk_lt hbk10
        go_wp2_with fail
        go_region_with (first | (go_at_call 23; (with_reducible refine (HLo.out _ _ _ hWx).mono ?_); rintro r w20 ⟨hi20, lo20, rfl, hw20, b20⟩; obtain ⟨hc20, hf20⟩ := bcell b20; (try simp only [dr_size, dr_cell] at hc20); (try simp only [dr_size, dr_frozen] at hf20); have hz20 := below_size b20; (try simp at hz20); have zz20_0 : w.heap.size + 1 < w20.heap.size := (by omega); have zz20_1 : w.heap.size + 1 + 1 < w20.heap.size := (by omega); have zz20_2 : p10 < w20.heap.size := (by omega)))
        all_goals go_wp2_with fail
        all_goals exact bodyPost_ret (v := .tuple #[.int .u64 (G : Nat), wV hi20 lo20]) (by simp [results, Tryd.results111, go_sem, *]) rfl ⟨_, _, rfl, hw20, bel⟩
end Go.Proofs.YtiplbpfdkcddlaaDoor

set_option linter.unusedSimpArgs false
set_option linter.unusedVariables false
set_option linter.unnecessarySimpa false
namespace Go.Proofs.YtiplbpfdkcddlaaDoor
open Go.RowKit Go.Proofs.YtiplbpfdkcddlaaDoorW.PrintWords Go.Proofs.YtiplbpfdkcddlaaDoorW.PrintLast Go.Proofs.YtiplbpfdkcddlaaDoorW.PrintMore

section
variable {P : Program}
/-- On the way out: deferred calls, and marks of ranges over functions in whose rounds nothing was deferred. -/
def LeavesM (P : Program) (fn : Func) (tmps : Array Value) (R : Ending → World → Prop) : List Deferred → FrameMode → World → Prop
  | [], u, w => Leaves P fn tmps R [] u w
  | d :: ds, u, w => u ≠ .run ∧
      ((∃ r w', d.target = .collected r ∧ (Instr.takeDeferred r).run P w = .ok [] w' ∧ LeavesM P fn tmps R ds u w') ∨
       (∃ fv cap f args, d.target = .fn fv cap ∧ (invoke d.target d.args).run P w = .ok (.enter f args) w ∧
        CallsD P f args u w fun
          | .returned _, u', w' => LeavesM P fn tmps R ds (settle u') w'
          | .panicked chain, u', w' => LeavesM P fn tmps R ds (raised u' chain) w'
          | .outgrown, _, w' => R .outgrown w'))

theorem leavesM_mark {fn : Func} {tmps : Array Value} {R : Ending → World → Prop} {ds : List Deferred} {u : FrameMode} {w w' : World} {r : Nat} {args : Array Value} (hu : u ≠ .run) (ht : (Instr.takeDeferred r).run P w = .ok [] w') (h : LeavesM P fn tmps R ds u w') :
    LeavesM P fn tmps R ({ target := .collected r, args } :: ds) u w := ⟨hu, .inl ⟨r, w', rfl, ht, h⟩⟩
theorem leavesM_cons {fn : Func} {tmps : Array Value} {R : Ending → World → Prop} {fv : Fn} {cap dargs : Array Value} {ds : List Deferred} {u : FrameMode}
    {w : World} {f : FuncId} {args : Array Value} (hu : u ≠ .run) (hi : (invoke (.fn fv cap) dargs).run P w = .ok (.enter f args) w)
    (h : CallsD P f args u w fun
      | .returned _, u', w' => LeavesM P fn tmps R ds (settle u') w'
      | .panicked chain, u', w' => LeavesM P fn tmps R ds (raised u' chain) w'
      | .outgrown, _, w' => R .outgrown w') :
    LeavesM P fn tmps R ({ target := .fn fv cap, args := dargs } :: ds) u w :=
  ⟨hu, .inr ⟨fv, cap, f, args, rfl, hi, h⟩⟩

theorem leavesM_steps {fn : Func} {tmps : Array Value} {R : Ending → World → Prop} : ∀ (ds : List Deferred) (u : FrameMode) (w : World) (fr : Frame) (cs : List Frame),
    fr.mode = u → fr.defers = ds → fr.tmps = tmps → P.funcs[fr.fn]? = some fn → fr.kind = .normal → LeavesM P fn tmps R ds u w →
    ∃ e w' fr', R e w' ∧ Comes P (lone fr cs w) (lone fr' cs w') e ∧ fr'.fn = fr.fn ∧ fr'.leaving P w' e
  | [], u, w, fr, cs, hu, hd, ht, hf, hk, h => leaves_steps [] u w fr cs hu hd ht hf hk h
  | d :: ds, u, w, fr, cs, hu, hd, ht, hf, hk, h => by
    obtain ⟨hrun, h⟩ := h
    rcases h with ⟨r, w', htar, htake, hrest⟩ | ⟨fv, cap, f, args, htar, hinv, hcall⟩
    · obtain ⟨e', w'', fr', hR', hs', hfn', hl'⟩ := leavesM_steps ds u w' { fr with defers := [] ++ ds } cs hu rfl ht hf hk hrest
      exact ⟨e', w'', fr', hR', Comes.of_steps (.one (step_collected (cs := cs) (hu ▸ hrun) hd htar htake)) hs', hfn', hl'⟩
    · have h1 := step_defer (cs := cs) (hu ▸ hrun) hd htar hinv
      obtain ⟨e, u', w', frX, hR, hsteps, hkX, hgo⟩ := hcall { fr with defers := ds } cs hu
      cases e with
      | returned v =>
        have h2 := step_going_returned (c := { { fr with defers := ds } with mode := u' }) (cs := cs) hkX hgo
        obtain ⟨e', w'', fr', hR', hs', hfn', hl'⟩ := leavesM_steps ds (settle u') w' { { { fr with defers := ds } with mode := u' } with mode := settle u' } cs rfl rfl ht hf hk hR
        exact ⟨e', w'', fr', hR', Comes.of_steps (.head h1 (Steps.trans hsteps (.one h2))) hs', hfn', hl'⟩
      | panicked chain =>
        have h2 := step_going_panicked (c := { { fr with defers := ds } with mode := u' }) (cs := cs) hgo
        obtain ⟨e', w'', fr', hR', hs', hfn', hl'⟩ := leavesM_steps ds (raised u' chain) w' { { { fr with defers := ds } with mode := u' } with mode := raised u' chain } cs rfl rfl ht hf hk hR
        exact ⟨e', w'', fr', hR', Comes.of_steps (.head h1 (Steps.trans hsteps (.one h2))) hs', hfn', hl'⟩
      | outgrown => exact ⟨.outgrown, w', fr, hR, Outgrown.of_steps (.one h1) hsteps, rfl, trivial⟩

/-- What the body of such a function must come to. -/
def bodyPostDM (P : Program) (fn : Func) (R : Ending → World → Prop) : Exit → Act → World → Prop
  | .normal, a, w | .ret, a, w => LeavesM P fn a.tmps R a.defers .returning w
  | .panic chain, a, w => LeavesM P fn a.tmps R a.defers (.panicking chain) w
  | .outgrown, _, w => R .outgrown w
  | _, _, _ => False

theorem calls_of_wp_dm {f : FuncId} {fn : Func} {c : Code} {args : Array Value} {w : World} {R : Ending → World → Prop}
    (hf : P.funcs[f]? = some fn) (hb : fn.body = some c)
    (h : c.wp P (bodyPostDM P fn R) { tmps := args ++ Array.replicate (fn.ntmps - args.size) undef, defers := [] } w) : Calls P f args w R := by
  intro cs
  obtain ⟨b, hbd⟩ : ∃ b : Frame, b = { (default : Frame) with fn := f, kind := .normal } := ⟨_, rfl⟩
  have henter : Frame.enter P f args .normal = b.at { tmps := args ++ Array.replicate (fn.ntmps - args.size) undef, defers := [] } [.code c] := by
    simp [Frame.enter, Frame.at, hf, hb, hbd]
  have hbf : b.fn = f := by rw [hbd]
  have hbk : b.kind = .normal := by rw [hbd]
  obtain ⟨e, a', w', hq, harr⟩ := h b [] cs
  rw [← henter] at harr
  have out : ∀ (u : FrameMode) (todo : List Item), LeavesM P fn a'.tmps R a'.defers u w' → Steps P (lone (Frame.enter P f args .normal) cs w) (lone { b.at a' todo with mode := u } cs w') →
      ∃ e w'' fr, R e w'' ∧ Comes P (lone (Frame.enter P f args .normal) cs w) (lone fr cs w'') e ∧ fr.fn = f ∧ fr.leaving P w'' e := by
    intro u todo hl hs
    obtain ⟨e', w'', fr', hR, hs', hfn, hlv⟩ := leavesM_steps a'.defers u w' { b.at a' todo with mode := u } cs rfl rfl rfl (by show P.funcs[b.fn]? = _; rw [hbf]; exact hf) hbk hl
    exact ⟨e', w'', fr', hR, Comes.of_steps hs hs', hfn.trans hbf, hlv⟩
  cases e with
  | normal => exact out .returning [] hq (Steps.trans harr (.one step_end))
  | ret =>
    obtain ⟨todo, hs⟩ := harr
    exact out .returning todo hq hs
  | panic chain =>
    obtain ⟨todo, hs⟩ := harr
    exact out (.panicking chain) todo hq hs
  | exit id => exact hq.elim
  | goto l => exact hq.elim
  | outgrown => exact ⟨.outgrown, w', b, hq, harr.resolve_left (by rw [hbk]; simp), hbf, trivial⟩

/-- The record of a range over a function, ready | pending a jump. -/
def loopRec (fn : FuncId) (tmps : Array Value) (ps : Array Tmp) (assign body : Code) (D : Nat) (st : LoopState) : Loop := { state := st, pending := none, fn, tmps, params := ps, assign, body, defers := D }

/-- A range over a function none of whose rounds is left early: the iterator is called with yield; it returns with the record ready, or panics. -/
theorem wp_rangeFunc {g : Operand} {ps : Array Tmp} {assign body : Code} {Q : Exit → Act → World → Prop} {a : Act} {w : World} {gf : Nat} {lb : Array Value}
    (hg : a.eval g = .func (.func gf) #[] lb) (eg : ∀ args w, (callFunc gf args).run P w = .ok (.enter gf args) w)
    (h : ∀ fn : FuncId, Calls P gf (#[.func (.yield (w.heap.size + 1)) #[] #[]] ++ lb) ((w.alloc (.deferred (some []))).alloc (.loop (loopRec fn a.tmps ps assign body w.heap.size .ready))) fun e w3 =>
      (∃ v, e = .returned v ∧ w3.heap[w.heap.size + 1]? = some (.loop (loopRec fn a.tmps ps assign body w.heap.size .ready)) ∧
        Q .normal { a with defers := { target := .collected w.heap.size, args := #[] } :: a.defers } (w3.putObj (w.heap.size + 1) (.loop (loopRec fn a.tmps ps assign body w.heap.size .exhausted)))) ∨
      (∃ chain, e = .panicked chain ∧ Q (.panic chain) { a with defers := { target := .collected w.heap.size, args := #[] } :: a.defers } w3)) :
    (Code.rangeFunc g ps assign body).wp P Q a w := by
  refine wpIn_wide (n := 0) |>.1 (wpIn_rangeFunc fun fn _ => ?_)
  have he := run_enterLoop_outer (P := P) (w := w) fn a.tmps ps assign body
  have hfn := h fn
  obtain ⟨W1, hW1⟩ : ∃ W1, (w.alloc (.deferred (some []))).alloc (.loop (loopRec fn a.tmps ps assign body w.heap.size .ready)) = W1 := ⟨_, rfl⟩
  rw [hW1] at hfn
  refine ⟨w.heap.size + 1, [{ target := .collected w.heap.size, args := #[] }], W1, { target := .fn (.func gf) lb, args := #[.func (.yield (w.heap.size + 1)) #[] #[]] }, W1, gf,
    #[.func (.yield (w.heap.size + 1)) #[] #[]] ++ lb, W1, by rw [← hW1]; exact he, ?_, fun _ _ => trivial, ?_, fun hd => by simp [Fence.wide] at hd, ?_⟩
  · simp only [resolve, hg]
    simp [go_sem]
  · simp [invoke, go_sem, eg]
  · refine callsIn_wide.2 (hfn.mono ?_)
    rintro e w3 (⟨v, rfl, hl, hq⟩ | ⟨chain, rfl, hq⟩)
    · exact ⟨none, _, run_endLoop hl (by simp [loopRec]), hq⟩
    · exact hq
end
end Go.Proofs.YtiplbpfdkcddlaaDoor

set_option linter.unusedSimpArgs false
set_option linter.unusedVariables false
set_option linter.unnecessarySimpa false
namespace Go.Proofs.YtiplbpfdkcddlaaDoor
open Go.RowKit Go.Proofs.YtiplbpfdkcddlaaDoorW.PrintWords Go.Proofs.YtiplbpfdkcddlaaDoorW.PrintLast Go.Proofs.YtiplbpfdkcddlaaDoorW.PrintMore

section
variable {P : Program}
theorem loopRec_busy (fn : FuncId) (tmps : Array Value) (ps : Array Tmp) (assign body : Code) (D : Nat) (st st' : LoopState) : { loopRec fn tmps ps assign body D st with state := st' } = loopRec fn tmps ps assign body D st' := rfl

/-- One round that is not left early. -/
theorem yield_round {L D : Nat} {fn : FuncId} {tmps : Array Value} {ps : Array Tmp} {assign body : Code} {args : Array Value} {W : World} {R : World → Prop} {rec : LoopState → Loop}
    (hrec : rec = fun st => loopRec fn tmps ps assign body D st) (hl : W.heap[L]? = some (.loop (rec .ready))) (hs : args.size = ps.size) (a₁ : Act)
    (hassign : ∀ K : Act → World → Prop, K a₁ W → assign.wpIn (Fence.wide.inRound L) 0 P (Exit.then K (fun _ _ _ => False)) { tmps := (ps.zip args).foldl (fun t (p, v) => t.setIfInBounds p v) tmps, defers := [] } W)
    (hbody : body.wpIn (Fence.wide.inRound L) 0 P (fun e _ W3 => e = .normal ∧ W3.heap[L]? = some (.loop (rec .busy)) ∧ R (W3.putObj L (.loop (rec .ready)))) a₁
      (W.putObj L (.loop (rec .busy)))) :
    YieldAt Fence.wide 0 P L args W fun e W' => e = .returned (.bool true) ∧ R W' := by
  subst hrec
  have hy := run_yield (P := P) (args := args) hl hs
  refine ⟨fn, _, assign, body, hy, roundIn_of_wpIn trivial (hassign _ ⟨_, run_beginRound hl rfl, ?_⟩)⟩
  refine wpIn_mono hbody ?_
  rintro e a3 W3 ⟨rfl, h3, hr⟩
  have hre := run_endRound (P := P) none h3
  exact ⟨_, _, hre, rfl, hr⟩

theorem wp_rangeFunc2 {g : Operand} {ps : Array Tmp} {assign body : Code} {Q : Exit → Act → World → Prop} {a : Act} {w : World} {gf : Nat} {lb : Array Value}
    (hg : a.eval g = .func (.func gf) #[] lb) (eg : ∀ args w, (callFunc gf args).run P w = .ok (.enter gf args) w)
    (h : ∀ (fn : FuncId) (rec : LoopState → Loop) (_ : rec = fun st => loopRec fn a.tmps ps assign body w.heap.size st), Calls P gf (#[.func (.yield (w.heap.size + 1)) #[] #[]] ++ lb) ((w.alloc (.deferred (some []))).alloc (.loop (rec .ready))) fun e w3 =>
      (∃ v, e = .returned v ∧ w3.heap[w.heap.size + 1]? = some (.loop (rec .ready)) ∧
        Q .normal { a with defers := { target := .collected w.heap.size, args := #[] } :: a.defers } (w3.putObj (w.heap.size + 1) (.loop (rec .exhausted)))) ∨
      (∃ chain, e = .panicked chain ∧ Q (.panic chain) { a with defers := { target := .collected w.heap.size, args := #[] } :: a.defers } w3)) :
    (Code.rangeFunc g ps assign body).wp P Q a w := wp_rangeFunc hg eg fun fn => h fn _ rfl
end

theorem OwnI.snoc {k : IntKind} {e : TypeId} {base : Nat} {w w' : World} {v' : Value} {xs : List Int} {inner : List Value} {ok : Nat → Prop} {x : Int} (hr : Reps ((Kd.int k).M w base ok) (Kd.int k).sz xs inner)
    (h : w'.ownsRow base e 1 v' (xs.length + 1) (inner ++ [.int k x])) : OwnI k e base w' v' (xs ++ [x]) :=
  ⟨fun _ _ => trivial, inner ++ [.int k x], by rw [List.length_append]; exact h, by
    have h1 : Reps ((Kd.int k).M w' base fun j => (fun _ => True) j ∧ some j ≠ v'.ownBlock) (Kd.int k).sz xs inner := hr.imp_ (fun p c hp => hp)
    exact Reps.snoc (c := [.int k x]) h1 (show [Value.int k x] = [Value.int k x] from rfl) rfl⟩

/-- Blocks ahead of n are as they were. -/
structure Old (n : Nat) (W W' : World) : Prop where
  os : W'.os = W.os
  tape : W'.tape = W.tape
  output : W'.output = W.output
  size : W.heap.size ≤ W'.heap.size
  block : ∀ k, k < n → k < W.heap.size → W'.heap[k]? = W.heap[k]?

/-- Blocks of cells of another type than these. -/
def KeepsT (t : TypeId) (W W' : World) : Prop := ∀ (g : Nat) (cs : Array Value), W.heap[g]? = some (Obj.cells cs t (0, 0)) → W'.heap[g]? = some (Obj.cells cs t (0, 0))
theorem KeepsT.trans {t : TypeId} {A B C : World} (h : KeepsT t A B) (k : KeepsT t B C) : KeepsT t A C := fun g cs hg => k g cs (h g cs hg)
theorem KeepsT.putObj {t : TypeId} {W : World} {L : Nat} {o : Obj} (o' : Obj) (h : W.heap[L]? = some o) (ho : o.isCells = false) : KeepsT t W (W.putObj L o') := fun g cs hg => by
  rw [World.putObj_heap_other (by rintro rfl; rw [h] at hg; cases hg; cases ho)]; exact hg
theorem KeepsT.alloc {t : TypeId} {W : World} (o : Obj) : KeepsT t W (W.alloc o) := fun g cs hg => blk_alloc hg o
theorem KeepsT.setCell {t t' : TypeId} {W : World} {p : Nat} {v u : Value} (h : One W p t' v) (ht : t ≠ t') : KeepsT t W (W.setCell ⟨p, 0, none⟩ u) := fun g cs hg => by
  rw [Below.heap_setCell _ _ _ _ (by rintro rfl; rw [show W.heap[_]? = _ from h] at hg; simp at hg; exact ht hg.2.symm)]; exact hg
theorem KeepsT.grown {t e : TypeId} {W W' : World} {base size k : Nat} {v : Value} {xs : List Value} (hg : W.grownBy W' v.ownBlock) (hr : W.ownsRow base e size v k xs) (ht : t ≠ e) : KeepsT t W W' := fun g cs h => by
  refine (hg.block g (Array.getElem?_eq_some_iff.1 h).1 ?_).trans h
  intro he
  rcases hr.2 with ⟨rfl, _⟩ | ⟨g', cap, cur, rfl, _, hgb, _⟩
  · simp [Value.ownBlock] at he
  · have : g = g' := by simpa [Value.ownBlock] using he
    subst this
    rw [h] at hgb; simp at hgb; exact ht hgb.2
theorem KeepsT.below {t : TypeId} {W W' : World} (h : Below W.heap.size W W') : KeepsT t W W' := fun g cs hg => blk_below hg h

theorem obj_set {w : World} {g p : Nat} {o : Obj} {u : Value} (h : w.heap[g]? = some o) (hne : g ≠ p) : (w.setCell ⟨p, 0, none⟩ u).heap[g]? = some o := (Below.heap_setCell _ _ _ _ hne).trans h
theorem blk_putObj {w : World} {g L : Nat} {o o' : Obj} (h : w.heap[g]? = some o) (hne : g ≠ L) : (w.putObj L o').heap[g]? = some o := (World.putObj_heap_other hne).trans h
theorem below_putObj {w w1 : World} {L : Nat} {o : Obj} (h : Below w.heap.size w w1) (hL : w.heap.size ≤ L) : Below w.heap.size w (w1.putObj L o) :=
  ⟨h.os, h.tape, h.output, by simpa using h.size, fun k hk => (World.putObj_heap_other (by omega)).trans (h.block k hk)⟩
theorem OwnI.putObj {k : IntKind} {e : TypeId} {base : Nat} {w : World} {v : Value} {xs : List Int} {L : Nat} {o : Obj} (h : OwnI k e base w v xs) (hL : L < base) : OwnI k e base (w.putObj L o) v xs :=
  Kd.R_mono (Kd.R_step (Kd.R_bound h) (fun j hj _ => World.putObj_heap_other (by have := hj.2.1; omega))) (fun _ _ => trivial)
theorem OwnI.grown {k : IntKind} {e : TypeId} {base : Nat} {w w1 : World} {v : Value} {xs : List Int} (h : OwnI k e base w v xs) {n : Nat} (hg : ∀ j, base ≤ j → j < w.heap.size → w1.heap[j]? = w.heap[j]?) (_ : n = n) : OwnI k e base w1 v xs :=
  Kd.R_mono (Kd.R_step (Kd.R_bound h) (fun j hj hlt => hg j hj.2.1 hlt)) (fun _ _ => trivial)
theorem cell_one_new' (w : World) (x : Value) (t : TypeId) : ∀ j u, [x][j]? = some u → (w.alloc (.cells #[x] t)).cell? ((⟨w.heap.size, 0, none⟩ : Addr).add j) = some u := by
  intro j u hj
  cases j with
  | zero =>
    simp at hj
    subst hj
    simp [Addr.add]
  | succ j => simp at hj
/-- A row's own block lies behind its base. -/
theorem own_base_le {w : World} {base : Nat} {e : TypeId} {size k : Nat} {v : Value} {xs : List Value} (h : w.ownsRow base e size v k xs) {g : Nat} (hg : v.ownBlock = some g) : base ≤ g := own_base h g hg
end Go.Proofs.YtiplbpfdkcddlaaDoor

set_option linter.unusedSimpArgs false
set_option linter.unusedVariables false
set_option linter.unnecessarySimpa false
namespace Go.Proofs.YtiplbpfdkcddlaaDoor
open Go.RowKit Go.Proofs.YtiplbpfdkcddlaaDoorW.PrintWords Go.Proofs.YtiplbpfdkcddlaaDoorW.PrintLast Go.Proofs.YtiplbpfdkcddlaaDoorW.PrintMore Go.Proofs.YtiplbpfdkcddlaaDoor.NL
set_option maxRecDepth 100000
set_option exponentiation.threshold 33000

/-- Elements of numbers stay. -/
def KeepsU (W W' : World) : Prop := ∀ b o x, W.cell? ⟨b, o, none⟩ = some (.int .u32 x) → W'.cell? ⟨b, o, none⟩ = some (.int .u32 x)
theorem KeepsU.trans {A B C : World} (h : KeepsU A B) (k : KeepsU B C) : KeepsU A C := fun b o x hx => k b o x (h b o x hx)
theorem KeepsU.below {A B : World} (h : Below A.heap.size A B) : KeepsU A B := fun b o x hx => cell_later h hx
theorem KeepsU.put {A : World} {L : Nat} {r r' : Loop} (h : A.heap[L]? = some (.loop r)) : KeepsU A (A.putObj L (.loop r')) := fun b o x hx => by
  by_cases hb : b = L
  · subst hb
    simp [World.cell?, h] at hx
  · simp only [World.cell?] at hx ⊢
    rw [World.putObj_heap_other hb]
    exact hx
theorem KeepsU.set {A : World} {g : Nat} {v : Int} {u : Value} (h : A.cell? ⟨g, 0, none⟩ = some (.int .i64 v)) : KeepsU A (A.setCell ⟨g, 0, none⟩ u) := fun b o x hx => by
  by_cases hb : b = g
  · subst hb
    by_cases ho : o = 0
    · subst ho; rw [h] at hx; cases hx
    · rw [World.cell?_setCell_other _ _ _ _ (by simpa using fun h => ho h.symm)]; exact hx
  · rw [World.cell?_setCell_far _ _ _ _ (by simpa using fun h => hb h.symm)]; exact hx
theorem KeepsU.setA {A : World} {g o : Nat} {v u : Value} (h : A.cell? ⟨g, o, none⟩ = some v) (hv : ∀ x, v ≠ .int .u32 x) : KeepsU A (A.setCell ⟨g, o, none⟩ u) := fun b p x hx => by
  by_cases hb : b = g
  · subst hb
    by_cases ho : p = o
    · subst ho; rw [h] at hx; injection hx with hx; exact absurd hx (hv x)
    · rw [World.cell?_setCell_other _ _ _ _ (by simpa using fun h => ho h.symm)]; exact hx
  · rw [World.cell?_setCell_far _ _ _ _ (by simpa using fun h => hb h.symm)]; exact hx
theorem KeepsU.word {A : World} {g : Nat} {x y : Int} {u v : Value} (h0 : A.cell? ⟨g, 0, none⟩ = some (.int .u64 x)) (h1 : A.cell? ⟨g, 1, none⟩ = some (.int .u64 y)) : KeepsU A ((A.setCell ⟨g, 0, none⟩ u).setCell ⟨g, 1, none⟩ v) :=
  KeepsU.trans (KeepsU.setA h0 (fun x h => by cases h)) (KeepsU.setA (v := .int .u64 y) (by rw [World.cell?_setCell_other _ _ _ _ (by simp)]; exact h1) (fun x h => by cases h))
theorem C_keeps {W W' : World} {A : Option Addr} {n : Nat} {xs : List Int} (h : Kd.C (Kd.int .u32) W A n xs) (hk : KeepsU W W') : Kd.C (Kd.int .u32) W' A n xs := by
  rcases Nat.eq_zero_or_pos n with h0 | h0
  · exact ⟨h.1, h.2.1, fun hp => by omega⟩
  · obtain ⟨b, off, rfl, -, hc⟩ := open_C h h0
    refine ⟨h.1, h.2.1, fun _ => ⟨⟨b, off, none⟩, rfl, fun j p hj => ⟨[.int .u32 p], rfl, rfl, fun i u hi => ?_⟩⟩⟩
    have hl := h.1
    have hj2 := (List.getElem?_eq_some_iff.1 hj).1
    cases i with
    | zero =>
      have hu : .int .u32 p = u := by simpa using hi
      have := hc j (by omega)
      rw [List.getD_eq_getElem?_getD, hj] at this
      rw [← hu]
      have e : (⟨b, off, none⟩ : Addr).add (j * (Kd.int .u32).sz + 0) = ⟨b, off + j, none⟩ := by
        have e1 : j * (Kd.int .u32).sz + 0 = j := by show j * 1 + 0 = j; omega
        rw [e1]; unfold Addr.add; split <;> simp_all
      rw [e]
      exact hk _ _ _ this
    | succ i => simp at hi
theorem ten_N (W : World) : Kd.C (Kd.int .u32) (W.alloc (.cells #[.int .u32 10] 46)) (some ⟨W.heap.size, 0, none⟩) 1 (ofN 10) := by
  rw [show ofN 10 = [10] from by decide +kernel]; exact ten_C W
/-- A call in the fence of rounds. -/
theorem in_wide {P : Program} {f : FuncId} {args : Array Value} {w : World} {R : Ending → World → Prop} (h : Calls P f args w R) : CallsIn Fence.wide 0 P f args w R := callsIn_wide.2 h
def ItPost (J : World → Prop) (e : Ending) (W : World) : Prop := e = .returned (.tuple #[]) ∧ J W
set_option maxHeartbeats 8000000 in
theorem long_it {A : Option Addr} {n c C K Pn Lb gd gf : Nat} {ex L P : Int} (hc : n ≤ c) (hP : P = (Pn : Nat)) (hPn : 0 < Pn ∧ Pn ≤ 40) (J : Nat → World → Prop) (hr : -1000000 ≤ ex ∧ ex ≤ 1000000) (hKr : K ≤ 1000000)
    (hK : ∀ i, i < K → L ≤ ex - (i : Int) ∧ C * 10 ^ i < 10 ^ Pn) (hE : ¬ (L ≤ ex - (K : Int) ∧ C * 10 ^ K < 10 ^ Pn)) (hCb : C < 2 ^ 200)
    (hJ : ∀ i W, J i W → W.cell? ⟨gd, 3, none⟩ = some (.slice A n c) ∧ W.cell? ⟨gd, 4, none⟩ = some (.int .i64 ex) ∧ W.cell? ⟨gf, 0, none⟩ = some (.int .i64 P) ∧ W.cell? ⟨gf, 1, none⟩ = some (.int .i64 L) ∧ Kd.C (Kd.int .u32) W A n (ofN C))
    (hJb : ∀ i W W', J i W → Below W.heap.size W W' → J i W')
    (hY : ∀ i B m d W, i < K → J i W → Kd.C (Kd.int .u32) W B m (ofN (C * 10 ^ i)) → m ≤ d → YieldAt Fence.wide 0 Tryd.prog Lb #[.slice B m d, .int .i64 (ex - (i : Int))] W fun e W' => e = .returned (.bool true) ∧ J (i + 1) W' ∧ KeepsU W W')
    (W : World) (h0 : J 0 W) :
    Calls Tryd.prog 35 #[.func (.yield Lb) #[] #[], .pointer (some ⟨gd, 0, none⟩), .pointer (some ⟨gf, 0, none⟩)] W (ItPost (J K)) := by
  obtain ⟨c1, c2, c3, c4, c5⟩ := hJ 0 W h0
  have hpos : ∀ i, i ≤ K → C * 10 ^ i < 2 ^ 239 := by
    intro i hi
    cases i with
    | zero => rw [Nat.pow_zero, Nat.mul_one]; exact Nat.lt_trans hCb (Nat.pow_lt_pow_right (by decide) (by decide))
    | succ i =>
      have h1 := (hK i (by omega)).2
      have h2 : 10 ^ Pn ≤ 10 ^ 40 := Nat.pow_le_pow_right (by decide) hPn.2
      have h3 : 10 ^ 40 * 10 < 2 ^ 239 := by decide +kernel
      rw [Nat.pow_succ, ← Nat.mul_assoc]
      omega
  have HS : Hid (∃ (B : Option Addr) (m d : Nat), (Value.slice A n c) = .slice B m d ∧ Hid (Kd.C (Kd.int .u32) W B m (ofN (C * 10 ^ 0)) ∧ m ≤ d)) := Lib.hid ⟨A, n, c, rfl, Lib.hid ⟨by rw [Nat.pow_zero, Nat.mul_one]; exact c5, hc⟩⟩
  have HJ0 := Lib.hid h0
  have HK := Lib.hid hK
  have HE := Lib.hid hE
  have HJ := Lib.hid hJ
  have HJB := Lib.hid hJb
  have HY := Lib.hid hY
  have HPS := Lib.hid hpos
  have HP := Lib.hid hP
  have HC5 := Lib.hid c5
  clear hK hE hJ hJb hY hpos h0 c5 hP hCb
  go_enter Tryd.func35, Tryd.ntmps35
  go_wp2_with fail
  go_region
  go_wp2_with fail
  go_loopw [4, 5] (fun v4 v5 wr => ∃ (i : Nat) (B : Option Addr) (m d : Nat), i ≤ K ∧ v4 = .slice B m d ∧ v5 = .int .i64 (ex - (i : Int)) ∧ Hid (Kd.C (Kd.int .u32) wr B m (ofN (C * 10 ^ i)) ∧ m ≤ d) ∧ Hid (J i wr)) (fun _ v5 _ => (intOf v5 - (ex - (K : Int))).toNat)
  case atStart => exact ⟨0, A, n, c, Nat.zero_le _, rfl, by simp, Lib.hid ⟨by rw [Nat.pow_zero, Nat.mul_one]; exact Kd.C_below HC5.out bel, hc⟩, Lib.hid (HJB.out _ _ _ HJ0.out bel)⟩
  case round =>
    obtain ⟨i, B, m, d, hi, rfl, rfl, HR, HJi⟩ := hrel
    clear c1 c2 c3 c4
    obtain ⟨-, -, c3, c4, -⟩ := HJ.out _ _ HJi.out
    have q3 : gf < wr.heap.size := by simpa using World.block_lt_of_cell? _ _ c3
    by_cases hlt : i < K
    · obtain ⟨k1, k2⟩ := HK.out i hlt
      have hb0 := HPS.out i hi
      have d1 : decide (ex - (i : Int) ≥ L) = true := decide_eq_true k1
      have d1' : decide (L ≤ ex - (i : Int)) = true := decide_eq_true k1
      have HBe : Hid (∀ w', Kd.C (Kd.int .u32) w' B m (ofN (C * 10 ^ i)) → Calls Tryd.prog 27 #[.slice B m d, .int .i64 P] w' fun r w'' => r = .returned (.bool true) ∧ Below w'.heap.size w' w'') := Lib.hid fun w' g => by
        have := dbelow_any (e := Pn) w' g (lim_ofN _) HR.out.2 (by omega) hPn.1
        rw [val_ofN, ok_240 (Nat.lt_trans hb0 (Nat.pow_lt_pow_right (by decide) (by decide))), Bool.true_and, decide_eq_true k2] at this
        rw [HP.out]; exact this
      have HMu : Hid (∀ A' w', Kd.C (Kd.int .u32) w' B m (ofN (C * 10 ^ i)) → Kd.C (Kd.int .u32) w' A' 1 (ofN 10) → Calls Tryd.prog 36 #[.slice B m d, .slice A' 1 1] w' (NumErr (ofN (C * 10 ^ (i + 1))) 0 w')) := Lib.hid fun A' w' g1 g2 => by
        have := n_mul w' g1 HR.out.2 g2 (Nat.le_refl 1) (Nat.lt_trans hb0 (Nat.pow_lt_pow_right (by decide) (by decide))) (Nat.lt_of_lt_of_le (show 10 < 2 ^ 10 by decide) (Nat.pow_le_pow_right (by decide) (by decide)))
        rwa [Nat.mul_assoc, ← Nat.pow_succ] at this
      clear k1 k2 hb0
      go_upto_region 1 with fail
      refine (wpIn_wide (n := 0)).1 ?_
      gi_wp2
      refine ⟨trivial, rfl, ?_⟩
      refine (in_wide (HBe.out _ (Kd.C_below HR.out.1 bel))).mono ?_
      rintro r w1 ⟨rfl, b1⟩
      obtain ⟨hc1, hf1⟩ := bcell b1
      gi_wp2
      obtain ⟨fn, tm, asg, bd, hy, hR⟩ := HY.out i B m d _ hlt (HJB.out _ _ _ HJi.out b1) (Kd.C_below HR.out.1 b1) HR.out.2
      (try dsimp only at hy)
      simp only [hy]
      refine ⟨(fun hd => by simp [Fence.wide] at hd), hR.mono ?_⟩
      rintro r W5 ⟨rfl, hj5, hkeep⟩
      have HR5 := Lib.hid (C_keeps (Kd.C_below HR.out.1 b1) hkeep)
      have HJ5 := Lib.hid hj5
      clear hj5 hkeep hR hy
      gi_wp2
      go_wp2_with (first | fail | (go_at_call 36; (with_reducible refine (HMu.out _ _ (Kd.C_below HR5.out bel) (ten_N _)).mono ?_); rintro r w6 ⟨v6, rfl, hv6, b6⟩; obtain ⟨A6, c6, rfl⟩ := Kd.R_slice hv6; have HV6 := Lib.hid (R_C hv6); clear hv6; obtain ⟨hc6, hf6⟩ := bcell b6))
      go_roundw
      case rel => exact ⟨i + 1, _, _, _, by omega, rfl, by first | rfl | (simp; omega), Lib.hid ⟨Kd.C_below HV6.out.1 bel, HV6.out.2⟩, Lib.hid (HJB.out _ _ _ HJ5.out bel)⟩
      case measure => simp [intOf]; omega
    · obtain rfl : i = K := by omega
      have hb0 := HPS.out i hi
      by_cases k1 : L ≤ ex - (i : Int)
      · have k2 : ¬ C * 10 ^ i < 10 ^ Pn := fun h => HE.out ⟨k1, h⟩
        have d1 : decide (ex - (i : Int) ≥ L) = true := decide_eq_true k1
        have d1' : decide (L ≤ ex - (i : Int)) = true := decide_eq_true k1
        have HBe : Hid (∀ w', Kd.C (Kd.int .u32) w' B m (ofN (C * 10 ^ i)) → Calls Tryd.prog 27 #[.slice B m d, .int .i64 P] w' fun r w'' => r = .returned (.bool false) ∧ Below w'.heap.size w' w'') := Lib.hid fun w' g => by
          have := dbelow_any (e := Pn) w' g (lim_ofN _) HR.out.2 (by omega) hPn.1
          rw [val_ofN, decide_eq_false k2, Bool.and_false] at this
          rw [HP.out]; exact this
        clear k1 k2 hb0
        go_wp2_with (first | fail | (go_at_call 27; (with_reducible refine (HBe.out _ (Kd.C_below HR.out.1 bel)).mono ?_); rintro r w1 ⟨rfl, b1⟩; obtain ⟨hc1, hf1⟩ := bcell b1))
        go_end0
        exact ⟨rfl, HJB.out _ _ _ HJi.out bel⟩
      · have d1 : decide (ex - (i : Int) ≥ L) = false := decide_eq_false k1
        have d1' : decide (L ≤ ex - (i : Int)) = false := decide_eq_false k1
        clear k1 hb0
        go_wp2
        go_end0
        exact ⟨rfl, HJB.out _ _ _ HJi.out bel⟩
set_option maxHeartbeats 8000000 in
theorem short_it {A : Option Addr} {n c C K Lb gd gf : Nat} {ex H : Int} (hc : n ≤ c) (J : Nat → World → Prop) (hr : -1000000 ≤ ex ∧ ex ≤ 1000000) (hKr : K ≤ 1000000)
    (hK : ∀ i : Nat, i < K → ex + (i : Int) ≤ H) (hZ : ∀ i, i + 1 < K → C / 10 ^ i % 10 = 0) (hE : (¬ (ex + (K : Int) ≤ H) ∧ (0 < K → C / 10 ^ (K - 1) % 10 = 0)) ∨ (0 < K ∧ C / 10 ^ (K - 1) % 10 ≠ 0)) (hCb : C < 2 ^ 200)
    (hJ : ∀ i W, J i W → W.cell? ⟨gd, 3, none⟩ = some (.slice A n c) ∧ W.cell? ⟨gd, 4, none⟩ = some (.int .i64 ex) ∧ W.cell? ⟨gf, 2, none⟩ = some (.int .i64 H) ∧ Kd.C (Kd.int .u32) W A n (ofN C))
    (hJb : ∀ i W W', J i W → Below W.heap.size W W' → J i W')
    (hY : ∀ i B m d W, i < K → J i W → Kd.C (Kd.int .u32) W B m (ofN (C / 10 ^ i)) → m ≤ d → YieldAt Fence.wide 0 Tryd.prog Lb #[.slice B m d, .int .i64 (ex + (i : Int))] W fun e W' => e = .returned (.bool true) ∧ J (i + 1) W' ∧ KeepsU W W')
    (W : World) (h0 : J 0 W) :
    Calls Tryd.prog 37 #[.func (.yield Lb) #[] #[], .pointer (some ⟨gd, 0, none⟩), .pointer (some ⟨gf, 0, none⟩)] W (ItPost (J K)) := by
  obtain ⟨c1, c2, c3, c5⟩ := hJ 0 W h0
  have HJ0 := Lib.hid h0
  have HK := Lib.hid hK
  have HZ := Lib.hid hZ
  have HE := Lib.hid hE
  have HJ := Lib.hid hJ
  have HJB := Lib.hid hJb
  have HY := Lib.hid hY
  have HC5 := Lib.hid c5
  clear hK hE hZ hJ hJb hY h0 c5
  go_enter Tryd.func37, Tryd.ntmps37
  go_wp2_with fail
  go_region
  go_wp2_with fail
  go_loopw [4, 5] (fun v4 v5 wr => ∃ (i : Nat) (B : Option Addr) (m d : Nat), i ≤ K ∧ v4 = .slice B m d ∧ v5 = .int .i64 (ex + (i : Int)) ∧ Hid (Kd.C (Kd.int .u32) wr B m (ofN (C / 10 ^ i)) ∧ m ≤ d) ∧ Hid (J i wr) ∧ Hid (0 < i → C / 10 ^ (i - 1) % 10 = 0)) (fun _ v5 _ => (ex + (K : Int) - intOf v5).toNat)
  case atStart => exact ⟨0, A, n, c, Nat.zero_le _, rfl, by simp, Lib.hid ⟨by rw [Nat.pow_zero, Nat.div_one]; exact Kd.C_below HC5.out bel, hc⟩, Lib.hid (HJB.out _ _ _ HJ0.out bel), Lib.hid (fun h => by omega)⟩
  case round =>
    obtain ⟨i, B, m, d, hi, rfl, rfl, HR, HJi, HZi⟩ := hrel
    clear c1 c2 c3
    obtain ⟨-, -, c3, -⟩ := HJ.out _ _ HJi.out
    have q3 : gf < wr.heap.size := by simpa using World.block_lt_of_cell? _ _ c3
    by_cases hlt : i < K
    · have k1 := HK.out i hlt
      have d1 : decide (ex + (i : Int) ≤ H) = true := decide_eq_true k1
      have hb : C / 10 ^ i < 2 ^ 240 := Nat.lt_of_le_of_lt (Nat.div_le_self _ _) (Nat.lt_trans hCb (Nat.pow_lt_pow_right (by decide) (by decide)))
      have HDi : Hid (∀ A' w', Kd.C (Kd.int .u32) w' B m (ofN (C / 10 ^ i)) → Kd.C (Kd.int .u32) w' A' 1 (ofN 10) → Calls Tryd.prog 38 #[.slice B m d, .slice A' 1 1] w' (NumErr2 (ofN (C / 10 ^ (i + 1))) (ofN (C / 10 ^ i % 10)) 0 w')) := Lib.hid fun A' w' g1 g2 => by
        have := n_div w' g1 HR.out.2 g2 (Nat.le_refl 1) hb (Nat.lt_of_lt_of_le (show 10 < 2 ^ 10 by decide) (Nat.pow_le_pow_right (by decide) (by decide))) (by decide)
        rwa [Nat.div_div_eq_div_mul, ← Nat.pow_succ] at this
      have hz : Hid (i + 1 < K → C / 10 ^ i % 10 = 0) := Lib.hid (HZ.out i)
      clear k1 hb
      go_upto_region 1 with fail
      refine (wpIn_wide (n := 0)).1 ?_
      gi_wp2
      obtain ⟨fn, tm, asg, bd, hy, hR⟩ := HY.out i B m d _ hlt HJi.out HR.out.1 HR.out.2
      (try dsimp only at hy)
      simp only [hy]
      refine ⟨(fun hd => by simp [Fence.wide] at hd), hR.mono ?_⟩
      rintro r W5 ⟨rfl, hj5, hkeep⟩
      have HR5 := Lib.hid (C_keeps HR.out.1 hkeep)
      have HJ5 := Lib.hid hj5
      clear hj5 hkeep hR hy
      by_cases h0 : C / 10 ^ i % 10 = 0
      · have HH0 := Lib.hid h0
        have hlen : (ofN (C / 10 ^ i % 10)).length = 0 := by rw [h0, ofN_zero]; rfl
        clear h0
        gi_wp2
        go_wp2_with (first | fail | (go_at_call 38; (with_reducible refine (HDi.out _ _ (Kd.C_below HR5.out bel) (ten_N _)).mono ?_); rintro r w6 ⟨v6, u6, rfl, hv6, hu6, b6⟩; obtain ⟨A6, c6, rfl⟩ := Kd.R_slice hv6; obtain ⟨E6, e6, rfl⟩ := Kd.R_slice hu6; have HV6 := Lib.hid (R_C hv6); clear hv6 hu6; obtain ⟨hc6, hf6⟩ := bcell b6))
        go_roundw
        case rel => exact ⟨i + 1, _, _, _, by omega, rfl, by first | rfl | (simp; omega), Lib.hid ⟨Kd.C_below HV6.out.1 bel, HV6.out.2⟩, Lib.hid (HJB.out _ _ _ HJ5.out bel), Lib.hid (fun _ => HH0.out)⟩
        case measure => simp [intOf]; omega
      · have hlen : 0 < (ofN (C / 10 ^ i % 10)).length := by
          rcases Nat.eq_zero_or_pos (ofN (C / 10 ^ i % 10)).length with h | h
          · exact absurd (ofN_nil.1 (List.length_eq_zero_iff.1 h)) h0
          · exact h
        have hik : i + 1 = K := by
          rcases Nat.lt_or_ge (i + 1) K with h | h
          · exact absurd (hz.out h) h0
          · omega
        subst hik
        clear h0
        generalize (ofN (C / 10 ^ i % 10)) = rs at *
        have d2 : decide (((rs.length : Nat) : Int) > 0) = true := decide_eq_true (by omega)
        have d3 : decide (0 < ((rs.length : Nat) : Int)) = true := decide_eq_true (by omega)
        gi_wp2
        go_wp2_with (first | fail | (go_at_call 38; (with_reducible refine (HDi.out _ _ (Kd.C_below HR5.out bel) (ten_N _)).mono ?_); rintro r w6 ⟨v6, u6, rfl, hv6, hu6, b6⟩; obtain ⟨A6, c6, rfl⟩ := Kd.R_slice hv6; obtain ⟨E6, e6, rfl⟩ := Kd.R_slice hu6; have HV6 := Lib.hid (R_C hv6); clear hv6 hu6; obtain ⟨hc6, hf6⟩ := bcell b6))
        go_end0
        exact ⟨rfl, HJB.out _ _ _ HJ5.out bel⟩
    · obtain rfl : i = K := by omega
      have k1 : ¬ (ex + (i : Int) ≤ H) := by
        rcases HE.out with ⟨h, -⟩ | ⟨h1, h2⟩
        · omega
        · exact absurd (HZi.out h1) h2
      have d1 : decide (ex + (i : Int) ≤ H) = false := decide_eq_false k1
      clear k1
      go_wp2
      go_end0
      exact ⟨rfl, HJB.out _ _ _ HJi.out bel⟩
end Go.Proofs.YtiplbpfdkcddlaaDoor
