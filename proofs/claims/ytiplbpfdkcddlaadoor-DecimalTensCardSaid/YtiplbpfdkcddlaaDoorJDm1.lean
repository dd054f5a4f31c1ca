/- decimal.Decode of quiet NaNs: its walk. -/
import Derived.Test.YtiplbpfdkcddlaaDoorJD11
import Derived.Test.YtiplbpfdkcddlaaDoorJDm4
set_option linter.unusedSimpArgs false
set_option linter.unusedVariables false
set_option linter.unnecessarySimpa false
namespace Go.Proofs.YtiplbpfdkcddlaaDoor
open Go.RowKit Go.Proofs.YtiplbpfdkcddlaaDoorW.PrintWords Go.Proofs.YtiplbpfdkcddlaaDoorW.PrintLast Go.Proofs.YtiplbpfdkcddlaaDoorW.PrintMore Go.Proofs.YtiplbpfdkcddlaaDoor.NL
set_option maxRecDepth 100000
set_option exponentiation.threshold 33000

set_option maxHeartbeats 16000000 in
theorem dec_qnan {fm enc P L H hi lo cl : Int} {wn tn s T G sg R g3 g4 g5 : Nat} {ng cb a b c a2 : Bool} {te : TypeId} {v : Value} {gpay : Nat} (w : World)
    (hT : Tab w)
    (HFo : Hid (∀ w', Tab w' → Calls Tryd.prog 19 #[.int .i64 fm] w' fun r w'' => r = .returned (.tuple #[fV P L H (wn : Nat) (tn : Nat), .bool true]) ∧ Below w'.heap.size w' w''))
    (HEn : Hid (∀ w', Calls Tryd.prog 18 #[.int .i64 enc] w' fun r w'' => r = .returned (.iface te v) ∧ Below w'.heap.size w' w''))
    (hs1 : Hid (s = 1 + wn + 5 + tn)) (hwn : wn ≤ 12) (htn : tn ≤ 110)
    (HLs : Hid (∀ w', Calls Tryd.prog 23 #[wV hi lo, .int .i64 (s : Nat)] w' fun r w'' => r = .returned (wV hi lo) ∧ Below w'.heap.size w' w''))
    (HF1 : Hid (∀ g w', w'.cell? ⟨g, 0, none⟩ = some (.int .u64 hi) → w'.cell? ⟨g, 1, none⟩ = some (.int .u64 lo) → Calls Tryd.prog 24 #[.int .i64 (tn : Nat), .int .i64 ((wn : Int) + 5), .pointer (some ⟨g, 0, none⟩)] w' fun r w'' => r = .returned (.int .u64 (G : Nat)) ∧ Below w'.heap.size w' w''))
    (HLt : Hid (∀ w', Calls Tryd.prog 23 #[wV hi lo, .int .i64 (tn : Nat)] w' (GivesW T w')))
    (HF2 : Hid (∀ g w', w'.cell? ⟨g, 0, none⟩ = some (.int .u64 hi) → w'.cell? ⟨g, 1, none⟩ = some (.int .u64 lo) → Calls Tryd.prog 24 #[.int .i64 ((s : Int) - 1), .int .i64 1, .pointer (some ⟨g, 0, none⟩)] w' fun r w'' => r = .returned (.int .u64 (sg : Nat)) ∧ Below w'.heap.size w' w''))
    (hng : ((sg : Int) == 1) = ng)
    (hwn0 : 0 < wn) (hcase : Hid (((G : Int) / 2 ^ wn == 30) = false ∧ ((G : Int) / 2 ^ wn == 31) = true ∧ cl = 3 ∧ cb = (c && a2)))
    (HFg3 : Hid (∀ g w', w'.cell? ⟨g, 0, none⟩ = some (.int .u64 hi) → w'.cell? ⟨g, 1, none⟩ = some (.int .u64 lo) → Calls Tryd.prog 24 #[.int .i64 (tn : Nat), .int .i64 (wn : Nat), .pointer (some ⟨g, 0, none⟩)] w' fun r w'' => r = .returned (.int .u64 (g3 : Nat)) ∧ Below w'.heap.size w' w''))
    (HFg5 : Hid (∀ g w', w'.cell? ⟨g, 0, none⟩ = some (.int .u64 hi) → w'.cell? ⟨g, 1, none⟩ = some (.int .u64 lo) → Calls Tryd.prog 24 #[.int .i64 ((tn : Int) + wn - 1), .int .i64 1, .pointer (some ⟨g, 0, none⟩)] w' fun r w'' => r = .returned (.int .u64 (g5 : Nat)) ∧ Below w'.heap.size w' w''))
    (HFg4 : Hid (∀ g w', w'.cell? ⟨g, 0, none⟩ = some (.int .u64 hi) → w'.cell? ⟨g, 1, none⟩ = some (.int .u64 lo) → Calls Tryd.prog 24 #[.int .i64 (tn : Nat), .int .i64 ((wn : Int) - 1), .pointer (some ⟨g, 0, none⟩)] w' fun r w'' => r = .returned (.int .u64 (g4 : Nat)) ∧ Below w'.heap.size w' w''))
    (ha : Hid (((g3 : Int) == 0) = a)) (hb : Hid (((g5 : Int) == 1) = false)) (ha2 : Hid (((g4 : Int) == 0) = a2))
    (hm : ∀ w', (method 254 te v "soroban/decimal.payload").run Tryd.prog w' = .ok (gpay, v) w')
    (ef : ∀ args w', (callFunc gpay args).run Tryd.prog w' = .ok (.enter gpay args) w')
    (HPay : Hid ((((G : Int) / 2 ^ wn == 30) = false) → ∀ thi tlo w', Hid (Wd T thi tlo) → Calls Tryd.prog gpay #[v, fV P L H (wn : Nat) (tn : Nat), wV thi tlo] w' (PayP R c w'))) :
    Calls Tryd.prog 10 #[.int .i64 fm, .int .i64 enc, .agg #[.int .u64 hi, .int .u64 lo]] w fun r w' => ∃ u, r = .returned (.tuple #[.agg #[.int .i64 fm, .int .i64 cl, .bool ng, u, .int .i64 0], .bool cb, .int .i64 0]) ∧ Kd.R (Kd.int .u32) 46 w' w.heap.size (fun _ => True) u (ofN R) ∧ Below w.heap.size w w' := by
  have HT := Lib.hid hT
  clear hT
  have e5 : IntKind.i64.wrap ((wn : Int) + 5) = (wn : Int) + 5 := by rw [IntKind.wrap_i64]; omega
  have es : IntKind.i64.wrap ((s : Int) - 1) = (s : Int) - 1 := by have := hs1.out; rw [IntKind.wrap_i64]; omega
  have hEq := fun d w => eqWd d w hi hi lo lo
  go_enter Tryd.func10, Tryd.ntmps10
  go_upto_region 4 with (first | fail | (go_at_call 19; (with_reducible refine (HFo.out _ (HT.out.below bel)).mono ?_); rintro r w1 ⟨rfl, b1⟩; obtain ⟨hc1, hf1⟩ := bcell b1; have hz1 := below_size b1; (try simp at hz1); have zz1_0 : w.heap.size < w1.heap.size := (by omega); have zz1_1 : w.heap.size + 1 < w1.heap.size := (by omega)) | (go_at_call 18; (with_reducible refine (HEn.out _).mono ?_); rintro r w2 ⟨rfl, b2⟩; obtain ⟨hc2, hf2⟩ := bcell b2; have hz2 := below_size b2; (try simp at hz2); have zz2_0 : w.heap.size < w2.heap.size := (by omega); have zz2_1 : w.heap.size + 1 < w2.heap.size := (by omega); have zz2_2 : w1.heap.size < w2.heap.size := (by omega)))
  go_cut [6, 7, 8, 9, 10, 11, 12, 13] (fun v_6 v_7 v_8 v_9 v_10 v_11 v_12 v_13 wx => ∃ (p9 p12 : Nat), v_6 = .pointer (some ⟨(w.heap.size + 1), 0, none⟩) ∧ BlkIs wx (w.heap.size + 1) 34 (· = #[.int .i64 0, .int .i64 0, .bool false, .slice none 0 0, .int .i64 0]) ∧ v_7 = .bool false ∧ v_8 = .int .i64 0 ∧ v_9 = .pointer (some ⟨p9, 0, none⟩) ∧ BlkIs wx p9 55 (· = #[.int .i64 P, .int .i64 L, .int .i64 H, .int .i64 (wn : Nat), .int .i64 (tn : Nat)]) ∧ v_10 = .bool true ∧ v_11 = .iface te v ∧ v_12 = .pointer (some ⟨p12, 0, none⟩) ∧ BlkIs wx p12 59 (· = #[.int .u64 hi, .int .u64 lo]) ∧ v_13 = .int .i64 (s : Nat) ∧ w.heap.size + 1 < p9 ∧ p9 < p12 ∧ Below w.heap.size w wx)
  case first =>
    go_wp2_with (first | fail)
    go_meet
    exact ⟨_, _, rfl, blk0, (by first | rfl | (simp; done)), (by first | rfl | (simp; done)), rfl, blk0, (by first | rfl | (simp; done)), (by first | rfl | (simp; done)), rfl, blk0, (by first | rfl | (simp; done) | (rw [hs1.out]; simp; done) | (rw [hs1.out]; simp; omega)), (by first | assumption | omega | (simp; done) | (simp; omega)), (by first | assumption | omega | (simp; done) | (simp; omega)), bel⟩
  case rest =>
    skip
    obtain ⟨p9, p12, rfl, HB6, rfl, rfl, rfl, HB9, rfl, rfl, rfl, HB12, rfl, hp9, hp912, hbw⟩ := hcut
    obtain ⟨cs6, hbk6, rfl⟩ := HB6
    obtain ⟨cs9, hbk9, rfl⟩ := HB9
    obtain ⟨cs12, hbk12, rfl⟩ := HB12
    have f6_0 : wc.cell? ⟨(w.heap.size + 1), 0, none⟩ = some (.int .i64 0) := by simpa using blk_cell hbk6 0
    have f6_1 : wc.cell? ⟨(w.heap.size + 1), 1, none⟩ = some (.int .i64 0) := by simpa using blk_cell hbk6 1
    have f6_2 : wc.cell? ⟨(w.heap.size + 1), 2, none⟩ = some (.bool false) := by simpa using blk_cell hbk6 2
    have f6_3 : wc.cell? ⟨(w.heap.size + 1), 3, none⟩ = some (.slice none 0 0) := by simpa using blk_cell hbk6 3
    have f6_4 : wc.cell? ⟨(w.heap.size + 1), 4, none⟩ = some (.int .i64 0) := by simpa using blk_cell hbk6 4
    have f6_z : (w.heap.size + 1) < wc.heap.size := blk_lt hbk6
    have f9_0 : wc.cell? ⟨p9, 0, none⟩ = some (.int .i64 P) := by simpa using blk_cell hbk9 0
    have f9_1 : wc.cell? ⟨p9, 1, none⟩ = some (.int .i64 L) := by simpa using blk_cell hbk9 1
    have f9_2 : wc.cell? ⟨p9, 2, none⟩ = some (.int .i64 H) := by simpa using blk_cell hbk9 2
    have f9_3 : wc.cell? ⟨p9, 3, none⟩ = some (.int .i64 (wn : Nat)) := by simpa using blk_cell hbk9 3
    have f9_4 : wc.cell? ⟨p9, 4, none⟩ = some (.int .i64 (tn : Nat)) := by simpa using blk_cell hbk9 4
    have f9_z : p9 < wc.heap.size := blk_lt hbk9
    have f12_0 : wc.cell? ⟨p12, 0, none⟩ = some (.int .u64 hi) := by simpa using blk_cell hbk12 0
    have f12_1 : wc.cell? ⟨p12, 1, none⟩ = some (.int .u64 lo) := by simpa using blk_cell hbk12 1
    have f12_z : p12 < wc.heap.size := blk_lt hbk12
    go_wp2_with fail
    go_region_held3 (fun w' => Below (wc).heap.size (wc) w' ∧ ∀ b o, b < (wc).heap.size → w'.cell? ⟨b, o, none⟩ = (wc).cell? ⟨b, o, none⟩) (first | ((try go_split_ands); refine below_S ?_; ((repeat (first | with_reducible assumption | with_reducible exact Below.refl _ _ | with_reducible refine below_alloc ?_ _ | with_reducible refine pw_below_drewN ?_ _ | with_reducible refine below_drew1 ?_ | ((with_reducible refine below_set ?_ ?hle); (case hle => first | (simp; done) | omega | (simp; omega))) | with_reducible refine below_step ?_ (by with_reducible assumption))); done))) (first | (go_at_call 23; (with_reducible refine (HLs.out _).mono ?_); rintro r w10 ⟨rfl, b10⟩; obtain ⟨hc10, hf10⟩ := bcell b10; (try simp only [dr_size, dr_cell] at hc10); (try simp only [dr_size, dr_frozen] at hf10); have hz10 := below_size b10; (try simp at hz10); have zz10_0 : w.heap.size + 1 < w10.heap.size := (by omega); have zz10_1 : p9 < w10.heap.size := (by omega); have zz10_2 : p12 < w10.heap.size := (by omega)))
    all_goals
      rename_i hHeld
      clear hHeld
      go_upto_region 7 with fail
      go_cut [6, 7, 8, 9, 11, 12, 13, 14] (fun v_6 v_7 v_8 v_9 v_11 v_12 v_13 v_14 wx => ∃ (p9 p12 : Nat), v_6 = .pointer (some ⟨(w.heap.size + 1), 0, none⟩) ∧ BlkIs wx (w.heap.size + 1) 34 (· = #[.int .i64 0, .int .i64 0, .bool false, .slice none 0 0, .int .i64 0]) ∧ v_7 = .bool false ∧ v_8 = .int .i64 0 ∧ v_9 = .pointer (some ⟨p9, 0, none⟩) ∧ BlkIs wx p9 55 (· = #[.int .i64 P, .int .i64 L, .int .i64 H, .int .i64 (wn : Nat), .int .i64 (tn : Nat)]) ∧ v_11 = .iface te v ∧ v_12 = .pointer (some ⟨p12, 0, none⟩) ∧ BlkIs wx p12 59 (· = #[.int .u64 hi, .int .u64 lo]) ∧ v_13 = .int .i64 (s : Nat) ∧ v_14 = .func (.func 24) #[] #[.pointer (some ⟨p12, 0, none⟩)] ∧ w.heap.size + 1 < p9 ∧ p9 < p12 ∧ Below w.heap.size w wx)
      case first =>
        go_wp2_with (first | fail)
        go_meet
        exact ⟨_, _, rfl, blk1, (by first | rfl | (simp; done)), (by first | rfl | (simp; done)), rfl, blk1, (by first | rfl | (simp; done)), rfl, blk1, (by first | rfl | (simp; done)), (by first | rfl | (simp; done)), (by first | assumption | omega | (simp; done) | (simp; omega)), (by first | assumption | omega | (simp; done) | (simp; omega)), bel⟩
      case rest =>
        skip
        clear f6_0 f6_1 f6_2 f6_3 f6_4 f6_z hbk6 f9_0 f9_1 f9_2 f9_3 f9_4 f9_z hbk9 f12_0 f12_1 f12_z hbk12
        obtain ⟨p9, p12, rfl, HB6, rfl, rfl, rfl, HB9, rfl, rfl, HB12, rfl, rfl, hp9, hp912, hbw⟩ := hcut
        obtain ⟨cs6, hbk6, rfl⟩ := HB6
        obtain ⟨cs9, hbk9, rfl⟩ := HB9
        obtain ⟨cs12, hbk12, rfl⟩ := HB12
        have f6_0 : wc.cell? ⟨(w.heap.size + 1), 0, none⟩ = some (.int .i64 0) := by simpa using blk_cell hbk6 0
        have f6_1 : wc.cell? ⟨(w.heap.size + 1), 1, none⟩ = some (.int .i64 0) := by simpa using blk_cell hbk6 1
        have f6_2 : wc.cell? ⟨(w.heap.size + 1), 2, none⟩ = some (.bool false) := by simpa using blk_cell hbk6 2
        have f6_3 : wc.cell? ⟨(w.heap.size + 1), 3, none⟩ = some (.slice none 0 0) := by simpa using blk_cell hbk6 3
        have f6_4 : wc.cell? ⟨(w.heap.size + 1), 4, none⟩ = some (.int .i64 0) := by simpa using blk_cell hbk6 4
        have f6_z : (w.heap.size + 1) < wc.heap.size := blk_lt hbk6
        have f9_0 : wc.cell? ⟨p9, 0, none⟩ = some (.int .i64 P) := by simpa using blk_cell hbk9 0
        have f9_1 : wc.cell? ⟨p9, 1, none⟩ = some (.int .i64 L) := by simpa using blk_cell hbk9 1
        have f9_2 : wc.cell? ⟨p9, 2, none⟩ = some (.int .i64 H) := by simpa using blk_cell hbk9 2
        have f9_3 : wc.cell? ⟨p9, 3, none⟩ = some (.int .i64 (wn : Nat)) := by simpa using blk_cell hbk9 3
        have f9_4 : wc.cell? ⟨p9, 4, none⟩ = some (.int .i64 (tn : Nat)) := by simpa using blk_cell hbk9 4
        have f9_z : p9 < wc.heap.size := blk_lt hbk9
        have f12_0 : wc.cell? ⟨p12, 0, none⟩ = some (.int .u64 hi) := by simpa using blk_cell hbk12 0
        have f12_1 : wc.cell? ⟨p12, 1, none⟩ = some (.int .u64 lo) := by simpa using blk_cell hbk12 1
        have f12_z : p12 < wc.heap.size := blk_lt hbk12
        go_wp2_with fail
        go_region_held3 (fun w' => Below (wc).heap.size (wc) w' ∧ ∀ b o, b < (wc).heap.size → w'.cell? ⟨b, o, none⟩ = (wc).cell? ⟨b, o, none⟩) (first | ((try go_split_ands); refine below_S ?_; ((repeat (first | with_reducible assumption | with_reducible exact Below.refl _ _ | with_reducible refine below_alloc ?_ _ | with_reducible refine pw_below_drewN ?_ _ | with_reducible refine below_drew1 ?_ | ((with_reducible refine below_set ?_ ?hle); (case hle => first | (simp; done) | omega | (simp; omega))) | with_reducible refine below_step ?_ (by with_reducible assumption))); done))) (first | ((try rw [e5]); (try rw [es]); (with_reducible refine (HF1.out _ _ (by first | exact f12_0 | exact kp_below f12_0 bel) (by first | exact f12_1 | exact kp_below f12_1 bel)).mono ?_); rintro r w20 ⟨rfl, b20⟩; obtain ⟨hc20, hf20⟩ := bcell b20; (try simp only [dr_size, dr_cell] at hc20); (try simp only [dr_size, dr_frozen] at hf20); have hz20 := below_size b20; (try simp at hz20); have zz20_0 : w.heap.size + 1 < w20.heap.size := (by omega); have zz20_1 : p9 < w20.heap.size := (by omega); have zz20_2 : p12 < w20.heap.size := (by omega); (try have zA20 : wc.heap.size < w20.heap.size := (by omega))) | (go_at_call 23; (with_reducible refine (HLt.out _).mono ?_); rintro r w21 ⟨hi21, lo21, rfl, hw21, b21⟩; obtain ⟨hc21, hf21⟩ := bcell b21; (try simp only [dr_size, dr_cell] at hc21); (try simp only [dr_size, dr_frozen] at hf21); have hz21 := below_size b21; (try simp at hz21); have zz21_0 : w.heap.size + 1 < w21.heap.size := (by omega); have zz21_1 : p9 < w21.heap.size := (by omega); have zz21_2 : p12 < w21.heap.size := (by omega); (try have zA21 : wc.heap.size < w21.heap.size := (by omega)); (try have zB21 : w20.heap.size < w21.heap.size := (by omega)); (try have zC21 : wc.heap.size < w20.heap.size := (by omega))))
        all_goals
          rename_i hHeld
          clear hHeld
          go_upto_region 9 with (first | fail | ((try rw [e5]); (try rw [es]); (with_reducible refine (HF2.out _ _ (by first | exact f12_0 | exact kp_below f12_0 bel) (by first | exact f12_1 | exact kp_below f12_1 bel)).mono ?_); rintro r w30 ⟨rfl, b30⟩; obtain ⟨hc30, hf30⟩ := bcell b30; have hz30 := below_size b30; (try simp at hz30); have zz30_0 : w.heap.size + 1 < w30.heap.size := (by omega); have zz30_1 : p9 < w30.heap.size := (by omega); have zz30_2 : p12 < w30.heap.size := (by omega); (try have zD30 : w21.heap.size < w30.heap.size := (by omega)); (try have zE30 : wc.heap.size < w30.heap.size := (by omega)); (try have zG30 : w20.heap.size < w30.heap.size := (by omega))))
          go_cut [6, 7, 8, 9, 11, 12, 14, 15, 16, 17] (fun v_6 v_7 v_8 v_9 v_11 v_12 v_14 v_15 v_16 v_17 wx => ∃ (p9 p12 p16 p17 : Nat), ∃ thi tlo : Int, v_6 = .pointer (some ⟨(w.heap.size + 1), 0, none⟩) ∧ BlkIs wx (w.heap.size + 1) 34 (· = #[.int .i64 0, .int .i64 0, .bool false, .slice none 0 0, .int .i64 0]) ∧ v_7 = .bool false ∧ v_8 = .int .i64 0 ∧ v_9 = .pointer (some ⟨p9, 0, none⟩) ∧ BlkIs wx p9 55 (· = #[.int .i64 P, .int .i64 L, .int .i64 H, .int .i64 (wn : Nat), .int .i64 (tn : Nat)]) ∧ v_11 = .iface te v ∧ v_12 = .pointer (some ⟨p12, 0, none⟩) ∧ BlkIs wx p12 59 (· = #[.int .u64 hi, .int .u64 lo]) ∧ v_14 = .func (.func 24) #[] #[.pointer (some ⟨p12, 0, none⟩)] ∧ v_15 = .int .u64 (G : Nat) ∧ v_16 = .pointer (some ⟨p16, 0, none⟩) ∧ BlkIs wx p16 59 (· = #[.int .u64 thi, .int .u64 tlo]) ∧ v_17 = .pointer (some ⟨p17, 0, none⟩) ∧ BlkIs wx p17 34 (· = #[.int .i64 fm, .int .i64 0, .bool ng, .slice none 0 0, .int .i64 0]) ∧ w.heap.size + 1 < p9 ∧ p9 < p12 ∧ p9 < p17 ∧ p16 < p17 ∧ p12 < p17 ∧ w.heap.size + 1 < p16 ∧ Hid (Wd T thi tlo) ∧ Below w.heap.size w wx)
          case first =>
            go_wp2_with (first | fail | ((try rw [e5]); (try rw [es]); (with_reducible refine (HF2.out _ _ (by first | exact f12_0 | exact kp_below f12_0 bel) (by first | exact f12_1 | exact kp_below f12_1 bel)).mono ?_); rintro r w30 ⟨rfl, b30⟩; obtain ⟨hc30, hf30⟩ := bcell b30; have hz30 := below_size b30; (try simp at hz30); have zz30_0 : w.heap.size + 1 < w30.heap.size := (by omega); have zz30_1 : p9 < w30.heap.size := (by omega); have zz30_2 : p12 < w30.heap.size := (by omega); (try have zD30 : w21.heap.size < w30.heap.size := (by omega)); (try have zE30 : wc.heap.size < w30.heap.size := (by omega)); (try have zG30 : w20.heap.size < w30.heap.size := (by omega))))
            go_meet
            exact ⟨_, _, _, _, _, _, rfl, blk1, (by first | rfl | (simp; done)), (by first | rfl | (simp; done)), rfl, blk1, (by first | rfl | (simp; done)), rfl, blk1, (by first | rfl | (simp; done)), (by first | rfl | (simp; done)), rfl, blk1, rfl, blk1, (by first | assumption | omega | (simp; done) | (simp; omega)), (by first | assumption | omega | (simp; done) | (simp; omega)), (by first | assumption | omega | (simp; done) | (simp; omega)), (by first | assumption | omega | (simp; done) | (simp; omega)), (by first | assumption | omega | (simp; done) | (simp; omega)), (by first | assumption | omega | (simp; done) | (simp; omega)), hw21, bel⟩
          case rest =>
            skip
            clear f6_0 f6_1 f6_2 f6_3 f6_4 f6_z hbk6 f9_0 f9_1 f9_2 f9_3 f9_4 f9_z hbk9 f12_0 f12_1 f12_z hbk12
            obtain ⟨p9, p12, p16, p17, thi, tlo, rfl, HB6, rfl, rfl, rfl, HB9, rfl, rfl, HB12, rfl, rfl, rfl, HB16, rfl, HB17, hp9, hp912, hp17, hp16, hp12, hp16b, hWT, hbw⟩ := hcut
            obtain ⟨cs6, hbk6, rfl⟩ := HB6
            obtain ⟨cs9, hbk9, rfl⟩ := HB9
            obtain ⟨cs12, hbk12, rfl⟩ := HB12
            obtain ⟨cs16, hbk16, rfl⟩ := HB16
            obtain ⟨cs17, hbk17, rfl⟩ := HB17
            have f6_0 : wc.cell? ⟨(w.heap.size + 1), 0, none⟩ = some (.int .i64 0) := by simpa using blk_cell hbk6 0
            have f6_f0 : wc.frozen? ⟨(w.heap.size + 1), 0, none⟩ = false := blk_frozen hbk6 0
            have f6_1 : wc.cell? ⟨(w.heap.size + 1), 1, none⟩ = some (.int .i64 0) := by simpa using blk_cell hbk6 1
            have f6_f1 : wc.frozen? ⟨(w.heap.size + 1), 1, none⟩ = false := blk_frozen hbk6 1
            have f6_2 : wc.cell? ⟨(w.heap.size + 1), 2, none⟩ = some (.bool false) := by simpa using blk_cell hbk6 2
            have f6_f2 : wc.frozen? ⟨(w.heap.size + 1), 2, none⟩ = false := blk_frozen hbk6 2
            have f6_3 : wc.cell? ⟨(w.heap.size + 1), 3, none⟩ = some (.slice none 0 0) := by simpa using blk_cell hbk6 3
            have f6_f3 : wc.frozen? ⟨(w.heap.size + 1), 3, none⟩ = false := blk_frozen hbk6 3
            have f6_4 : wc.cell? ⟨(w.heap.size + 1), 4, none⟩ = some (.int .i64 0) := by simpa using blk_cell hbk6 4
            have f6_f4 : wc.frozen? ⟨(w.heap.size + 1), 4, none⟩ = false := blk_frozen hbk6 4
            have f6_z : (w.heap.size + 1) < wc.heap.size := blk_lt hbk6
            have f9_0 : wc.cell? ⟨p9, 0, none⟩ = some (.int .i64 P) := by simpa using blk_cell hbk9 0
            have f9_1 : wc.cell? ⟨p9, 1, none⟩ = some (.int .i64 L) := by simpa using blk_cell hbk9 1
            have f9_2 : wc.cell? ⟨p9, 2, none⟩ = some (.int .i64 H) := by simpa using blk_cell hbk9 2
            have f9_3 : wc.cell? ⟨p9, 3, none⟩ = some (.int .i64 (wn : Nat)) := by simpa using blk_cell hbk9 3
            have f9_4 : wc.cell? ⟨p9, 4, none⟩ = some (.int .i64 (tn : Nat)) := by simpa using blk_cell hbk9 4
            have f9_z : p9 < wc.heap.size := blk_lt hbk9
            have f12_0 : wc.cell? ⟨p12, 0, none⟩ = some (.int .u64 hi) := by simpa using blk_cell hbk12 0
            have f12_1 : wc.cell? ⟨p12, 1, none⟩ = some (.int .u64 lo) := by simpa using blk_cell hbk12 1
            have f12_z : p12 < wc.heap.size := blk_lt hbk12
            have f16_0 : wc.cell? ⟨p16, 0, none⟩ = some (.int .u64 thi) := by simpa using blk_cell hbk16 0
            have f16_1 : wc.cell? ⟨p16, 1, none⟩ = some (.int .u64 tlo) := by simpa using blk_cell hbk16 1
            have f16_z : p16 < wc.heap.size := blk_lt hbk16
            have f17_0 : wc.cell? ⟨p17, 0, none⟩ = some (.int .i64 fm) := by simpa using blk_cell hbk17 0
            have f17_f0 : wc.frozen? ⟨p17, 0, none⟩ = false := blk_frozen hbk17 0
            have f17_1 : wc.cell? ⟨p17, 1, none⟩ = some (.int .i64 0) := by simpa using blk_cell hbk17 1
            have f17_f1 : wc.frozen? ⟨p17, 1, none⟩ = false := blk_frozen hbk17 1
            have f17_2 : wc.cell? ⟨p17, 2, none⟩ = some (.bool ng) := by simpa using blk_cell hbk17 2
            have f17_f2 : wc.frozen? ⟨p17, 2, none⟩ = false := blk_frozen hbk17 2
            have f17_3 : wc.cell? ⟨p17, 3, none⟩ = some (.slice none 0 0) := by simpa using blk_cell hbk17 3
            have f17_f3 : wc.frozen? ⟨p17, 3, none⟩ = false := blk_frozen hbk17 3
            have f17_4 : wc.cell? ⟨p17, 4, none⟩ = some (.int .i64 0) := by simpa using blk_cell hbk17 4
            have f17_f4 : wc.frozen? ⟨p17, 4, none⟩ = false := blk_frozen hbk17 4
            have f17_z : p17 < wc.heap.size := blk_lt hbk17
            have q1 : p9 ≠ p17 := by omega
            have q2 : p17 ≠ p9 := by omega
            have q3 : p16 ≠ p17 := by omega
            have q4 : p17 ≠ p16 := by omega
            have q5 : w.heap.size + 1 ≠ p17 := by omega
            have q6 : p17 ≠ w.heap.size + 1 := by omega
            (try clear hc1); (try clear hf1); (try clear hz1); (try clear zz1_0); (try clear zz1_1); (try clear zz1_2); (try clear zz1_3); (try clear hc2); (try clear hf2); (try clear hz2); (try clear zz2_0); (try clear zz2_1); (try clear zz2_2); (try clear zz2_3); (try clear hc10); (try clear hf10); (try clear hz10); (try clear zz10_0); (try clear zz10_1); (try clear zz10_2); (try clear zz10_3); (try clear hc20); (try clear hf20); (try clear hz20); (try clear zz20_0); (try clear zz20_1); (try clear zz20_2); (try clear zz20_3); (try clear hc21); (try clear hf21); (try clear hz21); (try clear zz21_0); (try clear zz21_1); (try clear zz21_2); (try clear zz21_3); (try clear hc30); (try clear hf30); (try clear hz30); (try clear zz30_0); (try clear zz30_1); (try clear zz30_2); (try clear zz30_3); (try clear zA20 zA21 zB21 zC21); (try clear zA20); (try clear zA21); (try clear zB21); (try clear zC21); (try clear zD30); (try clear zE30); (try clear zG30); (try clear HLs); (try clear HF1); (try clear HLt); (try clear HF2); (try clear HFo); (try clear HEn); (try clear e5); (try clear es); (try clear hEq); (try clear hng)
            obtain ⟨h30, h31, hcl, hcb⟩ := hcase.out
            · have ea : IntKind.i64.wrap ((tn : Int) + wn) = (tn : Int) + wn := by rw [IntKind.wrap_i64]; omega
              have eb : IntKind.i64.wrap ((tn : Int) + wn - 1) = (tn : Int) + wn - 1 := by rw [IntKind.wrap_i64]; omega
              have ec : IntKind.i64.wrap ((wn : Int) - 1) = (wn : Int) - 1 := by rw [IntKind.wrap_i64]; omega
              have hb3 := hb.out
              have ha3 := ha2.out
              have HPay2 := Lib.hid (HPay.out h30)
              clear HPay HFg3 ha
              have HCL := Lib.hid hcl
              have HCB := Lib.hid hcb
              clear hcl hcb
              cases c
              · skip
                have q7 : w.heap.size + 1 ≠ p12 := by omega
                have q8 : w.heap.size + 1 ≠ p16 := by omega
                have q9 : w.heap.size + 1 ≠ p9 := by omega
                have q10 : p12 ≠ w.heap.size + 1 := by omega
                have q11 : p16 ≠ w.heap.size + 1 := by omega
                have q12 : p9 ≠ w.heap.size + 1 := by omega
                have q13 : p12 ≠ p17 := by omega
                have q14 : p17 ≠ p12 := by omega
                go_wp2_with (first | fail | ((try rw [ea]); (try rw [eb]); (with_reducible refine (HFg5.out _ _ (by first | exact f12_0 | exact far_cell f12_0 q13 | exact kp_drew (far_cell f12_0 q13) | (go_split_ands; exact held_cell (by assumption) (far_cell f12_0 q13) q10) | (go_split_ands; exact held_cell (by assumption) (far_cell g12_0 q13) q10) | exact kp_below f12_0 bel) (by first | exact f12_1 | exact far_cell f12_1 q13 | exact kp_drew (far_cell f12_1 q13) | (go_split_ands; exact held_cell (by assumption) (far_cell f12_1 q13) q10) | (go_split_ands; exact held_cell (by assumption) (far_cell g12_1 q13) q10) | exact kp_below f12_1 bel)).mono ?_); rintro r w40 ⟨rfl, b40⟩; obtain ⟨hc40, hf40⟩ := bcell b40; have hz40 := below_size b40; (try simp at hz40); have zz40_0 : w.heap.size + 1 < w40.heap.size := (by omega); have zz40_1 : p9 < w40.heap.size := (by omega); have zz40_2 : p12 < w40.heap.size := (by omega); have zz40_3 : p16 < w40.heap.size := (by omega); have zz40_4 : p17 < w40.heap.size := (by omega); (try have zD40 : wc.heap.size < w40.heap.size := (by omega))) | ((with_reducible refine (HPay2.out _ _ _ hWT).mono ?_); rintro r w41 ⟨v41, rfl, hv41, b41⟩; obtain ⟨A41, c41, rfl⟩ := Kd.R_slice hv41; have HV41 := Lib.hid hv41; clear hv41; obtain ⟨hc41, hf41⟩ := bcell b41; have hz41 := below_size b41; (try simp at hz41); have zz41_0 : w.heap.size + 1 < w41.heap.size := (by omega); have zz41_1 : p9 < w41.heap.size := (by omega); have zz41_2 : p12 < w41.heap.size := (by omega); have zz41_3 : p16 < w41.heap.size := (by omega); have zz41_4 : p17 < w41.heap.size := (by omega); (try have zD41 : wc.heap.size < w41.heap.size := (by omega))))
                have g12_0 : w41.cell? ⟨p12, 0, none⟩ = some (.int .u64 hi) := kp_below (kp_below (far_cell f12_0 q13) b40) b41
                have g12_1 : w41.cell? ⟨p12, 1, none⟩ = some (.int .u64 lo) := kp_below (kp_below (far_cell f12_1 q13) b40) b41
                have HRk := Lib.hid (R_chg (S := fun k => k = w.heap.size + 1 ∨ k = p17) HV41.out (chg2 (w := w41) (w' := w41.setCell ⟨p17, 3, none⟩ (.slice A41 (ofN R).length c41))) (by intro k hk; (try simp at hk ⊢); omega))
                go_region
                all_goals
                  go_wp2_with fail
                  all_goals exact bodyPost_ret (v := .tuple #[.agg #[.int .i64 fm, .int .i64 3, .bool ng, .slice A41 (ofN R).length c41, .int .i64 0], .bool false, .int .i64 0]) (by simp [results, Tryd.results10, go_sem, *]) rfl ⟨_, (by rw [HCL.out, HCB.out]; first | rfl | (simp; done)), Kd.R_lower (R_chg (S := fun k => k = w.heap.size + 1 ∨ k = p17) HRk.out (Chg.dr chg2) (by intro k hk; (try simp at hk ⊢); omega)) (by first | omega | (simp; done) | (simp; omega)), bel⟩
              · skip
                have q7 : w.heap.size + 1 ≠ p12 := by omega
                have q8 : w.heap.size + 1 ≠ p16 := by omega
                have q9 : w.heap.size + 1 ≠ p9 := by omega
                have q10 : p12 ≠ w.heap.size + 1 := by omega
                have q11 : p16 ≠ w.heap.size + 1 := by omega
                have q12 : p9 ≠ w.heap.size + 1 := by omega
                have q13 : p12 ≠ p17 := by omega
                have q14 : p17 ≠ p12 := by omega
                go_wp2_with (first | fail | ((try rw [ea]); (try rw [eb]); (with_reducible refine (HFg5.out _ _ (by first | exact f12_0 | exact far_cell f12_0 q13 | exact kp_drew (far_cell f12_0 q13) | (go_split_ands; exact held_cell (by assumption) (far_cell f12_0 q13) q10) | (go_split_ands; exact held_cell (by assumption) (far_cell g12_0 q13) q10) | exact kp_below f12_0 bel) (by first | exact f12_1 | exact far_cell f12_1 q13 | exact kp_drew (far_cell f12_1 q13) | (go_split_ands; exact held_cell (by assumption) (far_cell f12_1 q13) q10) | (go_split_ands; exact held_cell (by assumption) (far_cell g12_1 q13) q10) | exact kp_below f12_1 bel)).mono ?_); rintro r w40 ⟨rfl, b40⟩; obtain ⟨hc40, hf40⟩ := bcell b40; have hz40 := below_size b40; (try simp at hz40); have zz40_0 : w.heap.size + 1 < w40.heap.size := (by omega); have zz40_1 : p9 < w40.heap.size := (by omega); have zz40_2 : p12 < w40.heap.size := (by omega); have zz40_3 : p16 < w40.heap.size := (by omega); have zz40_4 : p17 < w40.heap.size := (by omega); (try have zD40 : wc.heap.size < w40.heap.size := (by omega))) | ((with_reducible refine (HPay2.out _ _ _ hWT).mono ?_); rintro r w41 ⟨v41, rfl, hv41, b41⟩; obtain ⟨A41, c41, rfl⟩ := Kd.R_slice hv41; have HV41 := Lib.hid hv41; clear hv41; obtain ⟨hc41, hf41⟩ := bcell b41; have hz41 := below_size b41; (try simp at hz41); have zz41_0 : w.heap.size + 1 < w41.heap.size := (by omega); have zz41_1 : p9 < w41.heap.size := (by omega); have zz41_2 : p12 < w41.heap.size := (by omega); have zz41_3 : p16 < w41.heap.size := (by omega); have zz41_4 : p17 < w41.heap.size := (by omega); (try have zD41 : wc.heap.size < w41.heap.size := (by omega))))
                have g12_0 : w41.cell? ⟨p12, 0, none⟩ = some (.int .u64 hi) := kp_below (kp_below (far_cell f12_0 q13) b40) b41
                have g12_1 : w41.cell? ⟨p12, 1, none⟩ = some (.int .u64 lo) := kp_below (kp_below (far_cell f12_1 q13) b40) b41
                have HRk := Lib.hid (R_chg (S := fun k => k = w.heap.size + 1 ∨ k = p17) HV41.out (chg2 (w := w41) (w' := w41.setCell ⟨p17, 3, none⟩ (.slice A41 (ofN R).length c41))) (by intro k hk; (try simp at hk ⊢); omega))
                go_region_held3 (fun w' => HeldS ((w41.setCell ⟨p17, 3, none⟩ (.slice A41 (ofN R).length c41))) ((w.heap.size + 1)) w' ∧ (∀ b o, b < ((w41.setCell ⟨p17, 3, none⟩ (.slice A41 (ofN R).length c41))).heap.size → b ≠ (w.heap.size + 1) → w'.cell? ⟨b, o, none⟩ = ((w41.setCell ⟨p17, 3, none⟩ (.slice A41 (ofN R).length c41))).cell? ⟨b, o, none⟩) ∧ ∀ o, w'.frozen? ⟨(w.heap.size + 1), o, none⟩ = ((w41.setCell ⟨p17, 3, none⟩ (.slice A41 (ofN R).length c41))).frozen? ⟨(w.heap.size + 1), o, none⟩) (first | ((try go_split_ands); refine held_S ?_; ((repeat (first | with_reducible assumption | with_reducible exact HeldS.refl (by first | with_reducible assumption | (simp; done) | (simp; omega)) | with_reducible refine HeldS.alloc ?_ | with_reducible refine HeldS.drewN ?_ | with_reducible refine HeldS.drew ?_ | with_reducible refine HeldS.set ?_ | ((with_reducible refine HeldS.fresh ?_ ?hfr); (case hfr => first | (simp; done) | omega | (simp; omega))) | with_reducible refine HeldS.step ?_ (by with_reducible assumption))); done))) (first | ((try rw [ec]); (with_reducible refine (HFg4.out _ _ (by first | exact f12_0 | exact far_cell f12_0 q13 | exact kp_drew (far_cell f12_0 q13) | (go_split_ands; exact held_cell (by assumption) (far_cell f12_0 q13) q10) | (go_split_ands; exact held_cell (by assumption) (far_cell g12_0 q13) q10) | exact kp_below f12_0 bel) (by first | exact f12_1 | exact far_cell f12_1 q13 | exact kp_drew (far_cell f12_1 q13) | (go_split_ands; exact held_cell (by assumption) (far_cell f12_1 q13) q10) | (go_split_ands; exact held_cell (by assumption) (far_cell g12_1 q13) q10) | exact kp_below f12_1 bel)).mono ?_); rintro r w42 ⟨rfl, b42⟩; obtain ⟨hc42, hf42⟩ := bcell b42; (try simp only [dr_size, dr_cell] at hc42); (try simp only [dr_size, dr_frozen] at hf42); have hz42 := below_size b42; (try simp at hz42); have zz42_0 : w.heap.size + 1 < w42.heap.size := (by omega); have zz42_1 : p9 < w42.heap.size := (by omega); have zz42_2 : p12 < w42.heap.size := (by omega); have zz42_3 : p16 < w42.heap.size := (by omega); have zz42_4 : p17 < w42.heap.size := (by omega)))
                all_goals
                  go_wp2_with fail
                  all_goals exact bodyPost_ret (v := .tuple #[.agg #[.int .i64 fm, .int .i64 3, .bool ng, .slice A41 (ofN R).length c41, .int .i64 0], .bool a2, .int .i64 0]) (by simp [results, Tryd.results10, go_sem, *]) rfl ⟨_, (by rw [HCL.out, HCB.out]; first | rfl | (simp; done)), Kd.R_lower (R_chg (S := fun k => k = w.heap.size + 1 ∨ k = p17) (Kd.R_below HRk.out (show Below (w41.setCell ⟨p17, 3, none⟩ (.slice A41 (ofN R).length c41)).heap.size (w41.setCell ⟨p17, 3, none⟩ (.slice A41 (ofN R).length c41)) w42 from bel)) chg2 (by intro k hk; (try simp at hk ⊢); omega)) (by first | omega | (simp; done) | (simp; omega)), bel⟩
end Go.Proofs.YtiplbpfdkcddlaaDoor
