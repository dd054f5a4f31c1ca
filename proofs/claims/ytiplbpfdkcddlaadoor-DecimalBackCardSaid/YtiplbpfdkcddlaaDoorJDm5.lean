/- decimal.Encode: its walk, by the class of the datum. -/
import Derived.Test.YtiplbpfdkcddlaaDoorJD14
import Derived.Test.YtiplbpfdkcddlaaDoorJD1
import Derived.Test.YtiplbpfdkcddlaaDoorJD11
set_option linter.unusedSimpArgs false
set_option linter.unusedVariables false
set_option linter.unnecessarySimpa false
namespace Go.Proofs.YtiplbpfdkcddlaaDoor
open Go.RowKit Go.Proofs.YtiplbpfdkcddlaaDoorW.PrintWords Go.Proofs.YtiplbpfdkcddlaaDoorW.PrintLast Go.Proofs.YtiplbpfdkcddlaaDoorW.PrintMore Go.Proofs.YtiplbpfdkcddlaaDoor.NL
set_option maxRecDepth 100000
set_option exponentiation.threshold 33000

theorem cut_k {P : Program} {K : Act → World → Prop} {s : Code} {Q : Exit → Act → World → Prop} {a : Act} {w : World} (h : ∀ a w, Code.wp P s Q a w → K a w) (g : Code.wp P s Q a w) : K a w := h a w g
/-- The bits of an encoded datum. -/
def EncP (N : Nat) (w : World) (r : Ending) (w' : World) : Prop := ∃ hi lo : Int, r = .returned (.tuple #[wV hi lo, .int .i64 0]) ∧ Hid (Wd N hi lo) ∧ Below w.heap.size w w'
set_option maxHeartbeats 16000000 in
theorem enc_all {f cl enc ex P L H : Int} {ng : Bool} {wn tn T G G2 J S R Q n c gfin gtr : Nat} {A : Option Addr} {l : List Int} {te : TypeId} {v : Value} (w : World)
    (hT : Tab w)
    (HEn : Hid (∀ w', Calls Tryd.prog 18 #[.int .i64 enc] w' fun r w'' => r = .returned (.iface te v) ∧ Below w'.heap.size w' w''))
    (HCk : Hid (∀ w', Below w.heap.size w w' → Calls Tryd.prog 13 #[dV f cl ng A n c ex] w' fun r w'' => r = .returned (.int .i64 0) ∧ Below w'.heap.size w' w''))
    (HFo : Hid (∀ w', Tab w' → Calls Tryd.prog 19 #[.int .i64 f] w' fun r w'' => r = .returned (.tuple #[fV P L H (wn : Nat) (tn : Nat), .bool true]) ∧ Below w'.heap.size w' w''))
    (hcl : cl = 1 ∨ cl = 2 ∨ cl = 3 ∨ cl = 4)
    (HCl : Hid (∀ w', Below w.heap.size w w' → Calls Tryd.prog 20 #[.slice A n c] w' (NewRow w' l)))
    (hm : ∀ w', (method 254 te v "soroban/decimal.finite").run Tryd.prog w' = .ok (gfin, v) w')
    (hna : ∀ w', (nilAhead 254 te v "soroban/decimal.finite").run Tryd.prog w' = .ok (some false) w')
    (ef : ∀ args w', (callFunc gfin args).run Tryd.prog w' = .ok (.enter gfin args) w')
    (HM : Hid (cl = 1 → ∀ A' n' c' w', Kd.C (Kd.int .u32) w' A' n' l → n' ≤ c' → Calls Tryd.prog gfin #[v, fV P L H (wn : Nat) (tn : Nat), .slice A' n' c', .int .i64 ex] w' (FinP G T w')))
    (hW0 : Hid (cl = 2 → T = 0)) (hG2 : Hid (cl = 2 → IntKind.u64.wrap (30 * 2 ^ wn) = (G : Nat))) (hG3 : Hid (cl = 3 → IntKind.u64.wrap (31 * 2 ^ wn) = (G : Nat))) (hG4 : Hid (cl = 4 → IntKind.u64.wrap (63 * 2 ^ (wn - 1)) = (G : Nat))) (hn1 : decide ((wn : Int) - 1 < 0) = false) (hwr : IntKind.i64.wrap ((wn : Int) - 1) = (wn : Int) - 1)
    (hmt : ∀ w', (method 254 te v "soroban/decimal.trailing").run Tryd.prog w' = .ok (gtr, v) w')
    (hnat : ∀ w', (nilAhead 254 te v "soroban/decimal.trailing").run Tryd.prog w' = .ok (some false) w')
    (eft : ∀ args w', (callFunc gtr args).run Tryd.prog w' = .ok (.enter gtr args) w')
    (HTr : Hid (cl = 3 ∨ cl = 4 → ∀ w', Below w.heap.size w w' → Calls Tryd.prog gtr #[v, fV P L H (wn : Nat) (tn : Nat), .slice A n c] w' (GivesW T w')))
    (hq0 : Hid (ng = false → J = Q)) (hq1 : Hid (ng = true → R = Q))
    (hwn : wn ≤ 12) (htn : tn ≤ 110) (hwn0 : 0 < wn)
    (HLf : Hid (∀ w', Calls Tryd.prog 22 #[wV 0 (G : Nat), .int .i64 (tn : Nat)] w' (GivesW G2 w')))
    (HJ : Hid (∀ thi tlo hi lo w', Hid (Wd T thi tlo) → Hid (Wd G2 hi lo) → Calls Tryd.prog 21 #[wV thi tlo, wV hi lo] w' (GivesW J w')))
    (HLs : Hid (∀ w', Calls Tryd.prog 22 #[wV 0 1, .int .i64 ((tn : Int) + wn + 5)] w' (GivesW S w')))
    (HJ2 : Hid (∀ jhi jlo hi lo w', Hid (Wd J jhi jlo) → Hid (Wd S hi lo) → Calls Tryd.prog 21 #[wV jhi jlo, wV hi lo] w' (GivesW R w'))) :
    Calls Tryd.prog 9 #[dV f cl ng A n c ex, .int .i64 enc] w (EncP Q w) := by
  have HT := Lib.hid hT
  clear hT
  have ea : IntKind.i64.wrap ((tn : Int) + wn) = (tn : Int) + wn := by rw [IntKind.wrap_i64]; omega
  have eb : IntKind.i64.wrap ((tn : Int) + wn + 5) = (tn : Int) + wn + 5 := by rw [IntKind.wrap_i64]; omega
  go_enter Tryd.func9, Tryd.ntmps9
  go_upto_region 6 with (first | fail | (go_at_call 18; (with_reducible refine (HEn.out _).mono ?_); rintro r w1 ⟨rfl, b1⟩; obtain ⟨hc1, hf1⟩ := bcell b1; have hz1 := below_size b1; (try simp at hz1); have zz1_0 : w.heap.size < w1.heap.size := (by omega); have zz1_1 : w.heap.size + 1 < w1.heap.size := (by omega)) | (go_at_call 13; (with_reducible refine (HCk.out _ bel).mono ?_); rintro r w2 ⟨rfl, b2⟩; obtain ⟨hc2, hf2⟩ := bcell b2; have hz2 := below_size b2; (try simp at hz2); have zz2_0 : w.heap.size < w2.heap.size := (by omega); have zz2_1 : w.heap.size + 1 < w2.heap.size := (by omega)) | (go_at_call 19; (with_reducible refine (HFo.out _ (HT.out.below bel)).mono ?_); rintro r w3 ⟨rfl, b3⟩; obtain ⟨hc3, hf3⟩ := bcell b3; have hz3 := below_size b3; (try simp at hz3); have zz3_0 : w.heap.size < w3.heap.size := (by omega); have zz3_1 : w.heap.size + 1 < w3.heap.size := (by omega)))
  go_cut [2, 4, 5, 6, 7, 9, 10] (fun v_2 v_4 v_5 v_6 v_7 v_9 v_10 wx => ∃ (p7 p10 : Nat), v_2 = .pointer (some ⟨w.heap.size, 0, none⟩) ∧ BlkIs wx w.heap.size 34 (· = #[.int .i64 f, .int .i64 cl, .bool ng, .slice A n c, .int .i64 ex]) ∧ v_4 = .pointer (some ⟨(w.heap.size + 1), 0, none⟩) ∧ BlkIs wx (w.heap.size + 1) 37 (· = #[.int .u64 0, .int .u64 0]) ∧ v_5 = .int .i64 0 ∧ v_6 = .iface te v ∧ v_7 = .pointer (some ⟨p7, 0, none⟩) ∧ BlkIs wx p7 55 (· = #[.int .i64 P, .int .i64 L, .int .i64 H, .int .i64 (wn : Nat), .int .i64 (tn : Nat)]) ∧ v_9 = .int .u64 0 ∧ v_10 = .pointer (some ⟨p10, 0, none⟩) ∧ BlkIs wx p10 59 (· = #[.int .u64 0, .int .u64 0]) ∧ p7 < p10 ∧ w.heap.size + 1 < p7 ∧ Below w.heap.size w wx)
  case first =>
    go_wp2_with (first | fail | (go_at_call 18; (with_reducible refine (HEn.out _).mono ?_); rintro r w1 ⟨rfl, b1⟩; obtain ⟨hc1, hf1⟩ := bcell b1; have hz1 := below_size b1; (try simp at hz1); have zz1_0 : w.heap.size < w1.heap.size := (by omega); have zz1_1 : w.heap.size + 1 < w1.heap.size := (by omega)) | (go_at_call 13; (with_reducible refine (HCk.out _ bel).mono ?_); rintro r w2 ⟨rfl, b2⟩; obtain ⟨hc2, hf2⟩ := bcell b2; have hz2 := below_size b2; (try simp at hz2); have zz2_0 : w.heap.size < w2.heap.size := (by omega); have zz2_1 : w.heap.size + 1 < w2.heap.size := (by omega)) | (go_at_call 19; (with_reducible refine (HFo.out _ (HT.out.below bel)).mono ?_); rintro r w3 ⟨rfl, b3⟩; obtain ⟨hc3, hf3⟩ := bcell b3; have hz3 := below_size b3; (try simp at hz3); have zz3_0 : w.heap.size < w3.heap.size := (by omega); have zz3_1 : w.heap.size + 1 < w3.heap.size := (by omega)))
    go_meet
    exact ⟨_, _, rfl, blk0, rfl, blk0, (by first | rfl | (simp; done) | (simp [*]; done)), (by first | rfl | (simp; done) | (simp [*]; done)), rfl, blk0, (by first | rfl | (simp; done) | (simp [*]; done)), rfl, blk0, (by first | assumption | omega | (simp; done) | (simp; omega)), (by first | assumption | omega | (simp; done) | (simp; omega)), bel⟩
  case rest =>
    skip
    obtain ⟨p7, p10, rfl, HB2, rfl, HB4, rfl, rfl, rfl, HB7, rfl, rfl, HB10, hp10, hp7, hbw⟩ := hcut
    obtain ⟨cs2, hbk2, rfl⟩ := HB2
    obtain ⟨cs4, hbk4, rfl⟩ := HB4
    obtain ⟨cs7, hbk7, rfl⟩ := HB7
    obtain ⟨cs10, hbk10, rfl⟩ := HB10
    have f2_0 : wc.cell? ⟨w.heap.size, 0, none⟩ = some (.int .i64 f) := by simpa using blk_cell hbk2 0
    have f2_1 : wc.cell? ⟨w.heap.size, 1, none⟩ = some (.int .i64 cl) := by simpa using blk_cell hbk2 1
    have f2_2 : wc.cell? ⟨w.heap.size, 2, none⟩ = some (.bool ng) := by simpa using blk_cell hbk2 2
    have f2_3 : wc.cell? ⟨w.heap.size, 3, none⟩ = some (.slice A n c) := by simpa using blk_cell hbk2 3
    have f2_4 : wc.cell? ⟨w.heap.size, 4, none⟩ = some (.int .i64 ex) := by simpa using blk_cell hbk2 4
    have f2_z : w.heap.size < wc.heap.size := blk_lt hbk2
    have f4_0 : wc.cell? ⟨(w.heap.size + 1), 0, none⟩ = some (.int .u64 0) := by simpa using blk_cell hbk4 0
    have f4_1 : wc.cell? ⟨(w.heap.size + 1), 1, none⟩ = some (.int .u64 0) := by simpa using blk_cell hbk4 1
    have f4_z : (w.heap.size + 1) < wc.heap.size := blk_lt hbk4
    have f7_0 : wc.cell? ⟨p7, 0, none⟩ = some (.int .i64 P) := by simpa using blk_cell hbk7 0
    have f7_1 : wc.cell? ⟨p7, 1, none⟩ = some (.int .i64 L) := by simpa using blk_cell hbk7 1
    have f7_2 : wc.cell? ⟨p7, 2, none⟩ = some (.int .i64 H) := by simpa using blk_cell hbk7 2
    have f7_3 : wc.cell? ⟨p7, 3, none⟩ = some (.int .i64 (wn : Nat)) := by simpa using blk_cell hbk7 3
    have f7_4 : wc.cell? ⟨p7, 4, none⟩ = some (.int .i64 (tn : Nat)) := by simpa using blk_cell hbk7 4
    have f7_z : p7 < wc.heap.size := blk_lt hbk7
    have f10_0 : wc.cell? ⟨p10, 0, none⟩ = some (.int .u64 0) := by simpa using blk_cell hbk10 0
    have f10_f0 : wc.frozen? ⟨p10, 0, none⟩ = false := blk_frozen hbk10 0
    have f10_1 : wc.cell? ⟨p10, 1, none⟩ = some (.int .u64 0) := by simpa using blk_cell hbk10 1
    have f10_f1 : wc.frozen? ⟨p10, 1, none⟩ = false := blk_frozen hbk10 1
    have f10_z : p10 < wc.heap.size := blk_lt hbk10
    refine cut_k (P := Tryd.prog) (by assumption) ?_
    refine wp_seq_k (fun K_ hK_ => ?_)
    go_cut [2, 4, 5, 7, 9, 10] (fun v_2 v_4 v_5 v_7 v_9 v_10 wx => ∃ (p7 p10 : Nat), ∃ thi tlo : Int, v_2 = .pointer (some ⟨w.heap.size, 0, none⟩) ∧ BlkIs wx w.heap.size 34 (· = #[.int .i64 f, .int .i64 cl, .bool ng, .slice A n c, .int .i64 ex]) ∧ v_4 = .pointer (some ⟨(w.heap.size + 1), 0, none⟩) ∧ BlkIs wx (w.heap.size + 1) 37 (· = #[.int .u64 0, .int .u64 0]) ∧ v_5 = .int .i64 0 ∧ v_7 = .pointer (some ⟨p7, 0, none⟩) ∧ BlkIs wx p7 55 (· = #[.int .i64 P, .int .i64 L, .int .i64 H, .int .i64 (wn : Nat), .int .i64 (tn : Nat)]) ∧ v_9 = .int .u64 (G : Nat) ∧ v_10 = .pointer (some ⟨p10, 0, none⟩) ∧ BlkIs wx p10 59 (· = #[.int .u64 thi, .int .u64 tlo]) ∧ Hid (Wd T thi tlo) ∧ p7 < p10 ∧ w.heap.size + 1 < p7 ∧ Below w.heap.size w wx)
    case first =>
      have y0 : p7 ≠ p10 := by omega
      have y1 : p10 ≠ p7 := by omega
      have y2 : w.heap.size ≠ p10 := by omega
      have y3 : p10 ≠ w.heap.size := by omega
      have y4 : w.heap.size + 1 ≠ p10 := by omega
      have y5 : p10 ≠ w.heap.size + 1 := by omega
      rcases hcl with rfl | rfl | rfl | rfl
      · have HM2 := Lib.hid (HM.out rfl)
        clear HM hW0 hG2 hG3 hG4 HTr
        go_wp2_with fail
        go_region_held3 (fun w' => HeldS (wc) (p10) w' ∧ (∀ b o, b < (wc).heap.size → b ≠ p10 → w'.cell? ⟨b, o, none⟩ = (wc).cell? ⟨b, o, none⟩) ∧ ∀ o, w'.frozen? ⟨p10, o, none⟩ = (wc).frozen? ⟨p10, o, none⟩) (first | ((try go_split_ands); refine held_S ?_; ((repeat (first | with_reducible assumption | with_reducible exact HeldS.refl (by first | with_reducible assumption | (simp; done) | (simp; omega)) | with_reducible refine HeldS.alloc ?_ | with_reducible refine HeldS.drewN ?_ | with_reducible refine HeldS.drew ?_ | with_reducible refine HeldS.set ?_ | ((with_reducible refine HeldS.fresh ?_ ?hfr); (case hfr => first | (simp; done) | omega | (simp; omega))) | with_reducible refine HeldS.step ?_ (by with_reducible assumption))); done))) (first | (go_at_call 20; (with_reducible refine (HCl.out _ bel).mono ?_); rintro r w10 ⟨v10, rfl, hv10, b10⟩; obtain ⟨A10, c10, rfl⟩ := Kd.R_slice hv10; have HV10 := Lib.hid hv10; clear hv10; obtain ⟨hc10, hf10⟩ := bcell b10; (try simp only [dr_size, dr_cell] at hc10); (try simp only [dr_size, dr_frozen] at hf10); have hz10 := below_size b10; (try simp at hz10); have zz10_0 : w.heap.size < w10.heap.size := (by omega); have zz10_1 : w.heap.size + 1 < w10.heap.size := (by omega); have zz10_2 : p7 < w10.heap.size := (by omega); have zz10_3 : p10 < w10.heap.size := (by omega); (try have zA10 : wc.heap.size < w10.heap.size := (by omega))) | ((with_reducible refine (HM2.out _ _ _ _ (Kd.C_below (R_C HV10.out).1 bel) (R_C HV10.out).2).mono ?_); rintro r w20 ⟨hi20, lo20, rfl, hw20, b20⟩; obtain ⟨hc20, hf20⟩ := bcell b20; (try simp only [dr_size, dr_cell] at hc20); (try simp only [dr_size, dr_frozen] at hf20); have hz20 := below_size b20; (try simp at hz20); have zz20_0 : w.heap.size < w20.heap.size := (by omega); have zz20_1 : w.heap.size + 1 < w20.heap.size := (by omega); have zz20_2 : p7 < w20.heap.size := (by omega); have zz20_3 : p10 < w20.heap.size := (by omega); (try have zA20 : wc.heap.size < w20.heap.size := (by omega)); (try have zB20 : w10.heap.size < w20.heap.size := (by omega))))
        all_goals
          go_wp2_with fail
          go_meet
          exact ⟨_, _, _, _, rfl, blk1, rfl, blk1, (by first | rfl | (simp; done) | (simp [*]; done)), rfl, blk1, (by first | rfl | (simp; done) | (simp [*]; done)), rfl, blk1, hw20, (by first | assumption | omega | (simp; done) | (simp; omega)), (by first | assumption | omega | (simp; done) | (simp; omega)), bel⟩
      · have hg := hG2.out rfl
        obtain rfl := hW0.out rfl
        have hw20 : Hid (Wd 0 0 0) := Lib.hid ⟨by decide, by decide, by decide, by decide, rfl⟩
        clear HM hW0 hG2 hG3 hG4 HTr
        go_wp2_with fail
        all_goals
          go_wp2_with fail
          go_meet
          exact ⟨_, _, _, _, rfl, blk1, rfl, blk1, (by first | rfl | (simp; done) | (simp [*]; done)), rfl, blk1, (by first | rfl | (simp; done) | (simp [*]; done)), rfl, blk1, hw20, (by first | assumption | omega | (simp; done) | (simp; omega)), (by first | assumption | omega | (simp; done) | (simp; omega)), bel⟩
      · have hg := hG3.out rfl
        have HTr2 := Lib.hid (HTr.out (.inl rfl))
        clear HM hW0 hG2 hG3 hG4 HTr
        go_wp2_with fail
        go_region_held3 (fun w' => HeldS (wc) (p10) w' ∧ (∀ b o, b < (wc).heap.size → b ≠ p10 → w'.cell? ⟨b, o, none⟩ = (wc).cell? ⟨b, o, none⟩) ∧ ∀ o, w'.frozen? ⟨p10, o, none⟩ = (wc).frozen? ⟨p10, o, none⟩) (first | ((try go_split_ands); refine held_S ?_; ((repeat (first | with_reducible assumption | with_reducible exact HeldS.refl (by first | with_reducible assumption | (simp; done) | (simp; omega)) | with_reducible refine HeldS.alloc ?_ | with_reducible refine HeldS.drewN ?_ | with_reducible refine HeldS.drew ?_ | with_reducible refine HeldS.set ?_ | ((with_reducible refine HeldS.fresh ?_ ?hfr); (case hfr => first | (simp; done) | omega | (simp; omega))) | with_reducible refine HeldS.step ?_ (by with_reducible assumption))); done))) (first | ((with_reducible refine (HTr2.out _ bel).mono ?_); rintro r w20 ⟨hi20, lo20, rfl, hw20, b20⟩; obtain ⟨hc20, hf20⟩ := bcell b20; (try simp only [dr_size, dr_cell] at hc20); (try simp only [dr_size, dr_frozen] at hf20); have hz20 := below_size b20; (try simp at hz20); have zz20_0 : w.heap.size < w20.heap.size := (by omega); have zz20_1 : w.heap.size + 1 < w20.heap.size := (by omega); have zz20_2 : p7 < w20.heap.size := (by omega); have zz20_3 : p10 < w20.heap.size := (by omega); (try have zA20 : wc.heap.size < w20.heap.size := (by omega))))
        all_goals
          go_wp2_with fail
          go_meet
          exact ⟨_, _, _, _, rfl, blk1, rfl, blk1, (by first | rfl | (simp; done) | (simp [*]; done)), rfl, blk1, (by first | rfl | (simp; done) | (simp [*]; done)), rfl, blk1, hw20, (by first | assumption | omega | (simp; done) | (simp; omega)), (by first | assumption | omega | (simp; done) | (simp; omega)), bel⟩
      · have hg := hG4.out rfl
        have HTr2 := Lib.hid (HTr.out (.inr rfl))
        clear HM hW0 hG2 hG3 hG4 HTr
        go_wp2_with fail
        go_region_held3 (fun w' => HeldS (wc) (p10) w' ∧ (∀ b o, b < (wc).heap.size → b ≠ p10 → w'.cell? ⟨b, o, none⟩ = (wc).cell? ⟨b, o, none⟩) ∧ ∀ o, w'.frozen? ⟨p10, o, none⟩ = (wc).frozen? ⟨p10, o, none⟩) (first | ((try go_split_ands); refine held_S ?_; ((repeat (first | with_reducible assumption | with_reducible exact HeldS.refl (by first | with_reducible assumption | (simp; done) | (simp; omega)) | with_reducible refine HeldS.alloc ?_ | with_reducible refine HeldS.drewN ?_ | with_reducible refine HeldS.drew ?_ | with_reducible refine HeldS.set ?_ | ((with_reducible refine HeldS.fresh ?_ ?hfr); (case hfr => first | (simp; done) | omega | (simp; omega))) | with_reducible refine HeldS.step ?_ (by with_reducible assumption))); done))) (first | ((with_reducible refine (HTr2.out _ bel).mono ?_); rintro r w20 ⟨hi20, lo20, rfl, hw20, b20⟩; obtain ⟨hc20, hf20⟩ := bcell b20; (try simp only [dr_size, dr_cell] at hc20); (try simp only [dr_size, dr_frozen] at hf20); have hz20 := below_size b20; (try simp at hz20); have zz20_0 : w.heap.size < w20.heap.size := (by omega); have zz20_1 : w.heap.size + 1 < w20.heap.size := (by omega); have zz20_2 : p7 < w20.heap.size := (by omega); have zz20_3 : p10 < w20.heap.size := (by omega); (try have zA20 : wc.heap.size < w20.heap.size := (by omega))))
        all_goals
          go_wp2_with fail
          go_meet
          exact ⟨_, _, _, _, rfl, blk1, rfl, blk1, (by first | rfl | (simp; done) | (simp [*]; done)), rfl, blk1, (by first | rfl | (simp; done) | (simp [*]; done)), rfl, blk1, hw20, (by first | assumption | omega | (simp; done) | (simp; omega)), (by first | assumption | omega | (simp; done) | (simp; omega)), bel⟩
    case rest =>
      skip
      clear f2_0 f2_1 f2_2 f2_3 f2_4 f2_z hbk2 f4_0 f4_1 f4_z hbk4 f7_0 f7_1 f7_2 f7_3 f7_4 f7_z hbk7 f10_0 f10_1 f10_z hbk10
      obtain ⟨p7, p10, thi, tlo, rfl, HB2, rfl, HB4, rfl, rfl, HB7, rfl, rfl, HB10, hWT, hp10, hp7, hbw⟩ := hcut
      obtain ⟨cs2, hbk2, rfl⟩ := HB2
      obtain ⟨cs4, hbk4, rfl⟩ := HB4
      obtain ⟨cs7, hbk7, rfl⟩ := HB7
      obtain ⟨cs10, hbk10, rfl⟩ := HB10
      have f2_0 : wc.cell? ⟨w.heap.size, 0, none⟩ = some (.int .i64 f) := by simpa using blk_cell hbk2 0
      have f2_1 : wc.cell? ⟨w.heap.size, 1, none⟩ = some (.int .i64 cl) := by simpa using blk_cell hbk2 1
      have f2_2 : wc.cell? ⟨w.heap.size, 2, none⟩ = some (.bool ng) := by simpa using blk_cell hbk2 2
      have f2_3 : wc.cell? ⟨w.heap.size, 3, none⟩ = some (.slice A n c) := by simpa using blk_cell hbk2 3
      have f2_4 : wc.cell? ⟨w.heap.size, 4, none⟩ = some (.int .i64 ex) := by simpa using blk_cell hbk2 4
      have f2_z : w.heap.size < wc.heap.size := blk_lt hbk2
      have f4_0 : wc.cell? ⟨(w.heap.size + 1), 0, none⟩ = some (.int .u64 0) := by simpa using blk_cell hbk4 0
      have f4_1 : wc.cell? ⟨(w.heap.size + 1), 1, none⟩ = some (.int .u64 0) := by simpa using blk_cell hbk4 1
      have f4_z : (w.heap.size + 1) < wc.heap.size := blk_lt hbk4
      have f7_0 : wc.cell? ⟨p7, 0, none⟩ = some (.int .i64 P) := by simpa using blk_cell hbk7 0
      have f7_1 : wc.cell? ⟨p7, 1, none⟩ = some (.int .i64 L) := by simpa using blk_cell hbk7 1
      have f7_2 : wc.cell? ⟨p7, 2, none⟩ = some (.int .i64 H) := by simpa using blk_cell hbk7 2
      have f7_3 : wc.cell? ⟨p7, 3, none⟩ = some (.int .i64 (wn : Nat)) := by simpa using blk_cell hbk7 3
      have f7_4 : wc.cell? ⟨p7, 4, none⟩ = some (.int .i64 (tn : Nat)) := by simpa using blk_cell hbk7 4
      have f7_z : p7 < wc.heap.size := blk_lt hbk7
      have f10_0 : wc.cell? ⟨p10, 0, none⟩ = some (.int .u64 thi) := by simpa using blk_cell hbk10 0
      have f10_1 : wc.cell? ⟨p10, 1, none⟩ = some (.int .u64 tlo) := by simpa using blk_cell hbk10 1
      have f10_z : p10 < wc.heap.size := blk_lt hbk10
      refine cut_k (P := Tryd.prog) (by assumption) ?_
      refine wp_seq_k (fun K_ hK_ => ?_)
      go_cut [2, 4, 5, 7, 11] (fun v_2 v_4 v_5 v_7 v_11 wx => ∃ (p7 p11 : Nat), ∃ jhi jlo : Int, v_2 = .pointer (some ⟨w.heap.size, 0, none⟩) ∧ BlkIs wx w.heap.size 34 (· = #[.int .i64 f, .int .i64 cl, .bool ng, .slice A n c, .int .i64 ex]) ∧ v_4 = .pointer (some ⟨(w.heap.size + 1), 0, none⟩) ∧ BlkIs wx (w.heap.size + 1) 37 (· = #[.int .u64 0, .int .u64 0]) ∧ v_5 = .int .i64 0 ∧ v_7 = .pointer (some ⟨p7, 0, none⟩) ∧ BlkIs wx p7 55 (· = #[.int .i64 P, .int .i64 L, .int .i64 H, .int .i64 (wn : Nat), .int .i64 (tn : Nat)]) ∧ v_11 = .pointer (some ⟨p11, 0, none⟩) ∧ BlkIs wx p11 59 (· = #[.int .u64 jhi, .int .u64 jlo]) ∧ Hid (Wd J jhi jlo) ∧ p7 < p11 ∧ w.heap.size + 1 < p7 ∧ Below w.heap.size w wx)
      case first =>
        go_region_held3 (fun w' => Below (wc).heap.size (wc) w' ∧ ∀ b o, b < (wc).heap.size → w'.cell? ⟨b, o, none⟩ = (wc).cell? ⟨b, o, none⟩) (first | ((try go_split_ands); refine below_S ?_; ((repeat (first | with_reducible assumption | with_reducible exact Below.refl _ _ | with_reducible refine below_alloc ?_ _ | with_reducible refine pw_below_drewN ?_ _ | with_reducible refine below_drew1 ?_ | ((with_reducible refine below_set ?_ ?hle); (case hle => first | (simp; done) | omega | (simp; omega))) | with_reducible refine below_step ?_ (by with_reducible assumption))); done))) (first | (go_at_call 22; (with_reducible refine (HLf.out _).mono ?_); rintro r w30 ⟨hi30, lo30, rfl, hw30, b30⟩; obtain ⟨hc30, hf30⟩ := bcell b30; (try simp only [dr_size, dr_cell] at hc30); (try simp only [dr_size, dr_frozen] at hf30); have hz30 := below_size b30; (try simp at hz30); have zz30_0 : w.heap.size < w30.heap.size := (by omega); have zz30_1 : w.heap.size + 1 < w30.heap.size := (by omega); have zz30_2 : p7 < w30.heap.size := (by omega); have zz30_3 : p10 < w30.heap.size := (by omega); (try have zA30 : wc.heap.size < w30.heap.size := (by omega))) | (go_at_call 21; (with_reducible refine (HJ.out _ _ _ _ _ hWT hw30).mono ?_); rintro r w31 ⟨hi31, lo31, rfl, hw31, b31⟩; obtain ⟨hc31, hf31⟩ := bcell b31; (try simp only [dr_size, dr_cell] at hc31); (try simp only [dr_size, dr_frozen] at hf31); have hz31 := below_size b31; (try simp at hz31); have zz31_0 : w.heap.size < w31.heap.size := (by omega); have zz31_1 : w.heap.size + 1 < w31.heap.size := (by omega); have zz31_2 : p7 < w31.heap.size := (by omega); have zz31_3 : p10 < w31.heap.size := (by omega); (try have zA31 : wc.heap.size < w31.heap.size := (by omega)); (try have zB31 : w30.heap.size < w31.heap.size := (by omega))))
        all_goals
          go_wp2_with (first | fail)
          go_meet
          exact ⟨_, _, _, _, rfl, blk1, rfl, blk1, (by first | rfl | (simp; done) | (simp [*]; done)), rfl, blk1, rfl, blk1, hw31, (by first | assumption | omega | (simp; done) | (simp; omega)), (by first | assumption | omega | (simp; done) | (simp; omega)), bel⟩
      case rest =>
        skip
        clear f2_0 f2_1 f2_2 f2_3 f2_4 f2_z hbk2 f4_0 f4_1 f4_z hbk4 f7_0 f7_1 f7_2 f7_3 f7_4 f7_z hbk7 f10_0 f10_1 f10_z hbk10
        obtain ⟨p7, p11, jhi, jlo, rfl, HB2, rfl, HB4, rfl, rfl, HB7, rfl, HB11, hWJ, hp11, hp7, hbw⟩ := hcut
        cases ng with
        | false =>
          obtain rfl := hq0.out rfl
          obtain ⟨cs2, hbk2, rfl⟩ := HB2
          obtain ⟨cs4, hbk4, rfl⟩ := HB4
          obtain ⟨cs7, hbk7, rfl⟩ := HB7
          obtain ⟨cs11, hbk11, rfl⟩ := HB11
          have f2_0 : wc.cell? ⟨w.heap.size, 0, none⟩ = some (.int .i64 f) := by simpa using blk_cell hbk2 0
          have f2_1 : wc.cell? ⟨w.heap.size, 1, none⟩ = some (.int .i64 cl) := by simpa using blk_cell hbk2 1
          have f2_2 : wc.cell? ⟨w.heap.size, 2, none⟩ = some (.bool false) := by simpa using blk_cell hbk2 2
          have f2_3 : wc.cell? ⟨w.heap.size, 3, none⟩ = some (.slice A n c) := by simpa using blk_cell hbk2 3
          have f2_4 : wc.cell? ⟨w.heap.size, 4, none⟩ = some (.int .i64 ex) := by simpa using blk_cell hbk2 4
          have f2_z : w.heap.size < wc.heap.size := blk_lt hbk2
          have f4_0 : wc.cell? ⟨(w.heap.size + 1), 0, none⟩ = some (.int .u64 0) := by simpa using blk_cell hbk4 0
          have f4_f0 : wc.frozen? ⟨(w.heap.size + 1), 0, none⟩ = false := blk_frozen hbk4 0
          have f4_1 : wc.cell? ⟨(w.heap.size + 1), 1, none⟩ = some (.int .u64 0) := by simpa using blk_cell hbk4 1
          have f4_f1 : wc.frozen? ⟨(w.heap.size + 1), 1, none⟩ = false := blk_frozen hbk4 1
          have f4_z : (w.heap.size + 1) < wc.heap.size := blk_lt hbk4
          have f7_0 : wc.cell? ⟨p7, 0, none⟩ = some (.int .i64 P) := by simpa using blk_cell hbk7 0
          have f7_1 : wc.cell? ⟨p7, 1, none⟩ = some (.int .i64 L) := by simpa using blk_cell hbk7 1
          have f7_2 : wc.cell? ⟨p7, 2, none⟩ = some (.int .i64 H) := by simpa using blk_cell hbk7 2
          have f7_3 : wc.cell? ⟨p7, 3, none⟩ = some (.int .i64 (wn : Nat)) := by simpa using blk_cell hbk7 3
          have f7_4 : wc.cell? ⟨p7, 4, none⟩ = some (.int .i64 (tn : Nat)) := by simpa using blk_cell hbk7 4
          have f7_z : p7 < wc.heap.size := blk_lt hbk7
          have f11_0 : wc.cell? ⟨p11, 0, none⟩ = some (.int .u64 jhi) := by simpa using blk_cell hbk11 0
          have f11_1 : wc.cell? ⟨p11, 1, none⟩ = some (.int .u64 jlo) := by simpa using blk_cell hbk11 1
          have f11_z : p11 < wc.heap.size := blk_lt hbk11
          go_wp2_with fail
          all_goals exact bodyPost_ret (v := .tuple #[wV jhi jlo, .int .i64 0]) (by simp [results, Tryd.results9, go_sem, *]) rfl ⟨_, _, rfl, hWJ, bel⟩
        | true =>
          obtain rfl := hq1.out rfl
          obtain ⟨cs2, hbk2, rfl⟩ := HB2
          obtain ⟨cs4, hbk4, rfl⟩ := HB4
          obtain ⟨cs7, hbk7, rfl⟩ := HB7
          obtain ⟨cs11, hbk11, rfl⟩ := HB11
          have f2_0 : wc.cell? ⟨w.heap.size, 0, none⟩ = some (.int .i64 f) := by simpa using blk_cell hbk2 0
          have f2_1 : wc.cell? ⟨w.heap.size, 1, none⟩ = some (.int .i64 cl) := by simpa using blk_cell hbk2 1
          have f2_2 : wc.cell? ⟨w.heap.size, 2, none⟩ = some (.bool true) := by simpa using blk_cell hbk2 2
          have f2_3 : wc.cell? ⟨w.heap.size, 3, none⟩ = some (.slice A n c) := by simpa using blk_cell hbk2 3
          have f2_4 : wc.cell? ⟨w.heap.size, 4, none⟩ = some (.int .i64 ex) := by simpa using blk_cell hbk2 4
          have f2_z : w.heap.size < wc.heap.size := blk_lt hbk2
          have f4_0 : wc.cell? ⟨(w.heap.size + 1), 0, none⟩ = some (.int .u64 0) := by simpa using blk_cell hbk4 0
          have f4_f0 : wc.frozen? ⟨(w.heap.size + 1), 0, none⟩ = false := blk_frozen hbk4 0
          have f4_1 : wc.cell? ⟨(w.heap.size + 1), 1, none⟩ = some (.int .u64 0) := by simpa using blk_cell hbk4 1
          have f4_f1 : wc.frozen? ⟨(w.heap.size + 1), 1, none⟩ = false := blk_frozen hbk4 1
          have f4_z : (w.heap.size + 1) < wc.heap.size := blk_lt hbk4
          have f7_0 : wc.cell? ⟨p7, 0, none⟩ = some (.int .i64 P) := by simpa using blk_cell hbk7 0
          have f7_1 : wc.cell? ⟨p7, 1, none⟩ = some (.int .i64 L) := by simpa using blk_cell hbk7 1
          have f7_2 : wc.cell? ⟨p7, 2, none⟩ = some (.int .i64 H) := by simpa using blk_cell hbk7 2
          have f7_3 : wc.cell? ⟨p7, 3, none⟩ = some (.int .i64 (wn : Nat)) := by simpa using blk_cell hbk7 3
          have f7_4 : wc.cell? ⟨p7, 4, none⟩ = some (.int .i64 (tn : Nat)) := by simpa using blk_cell hbk7 4
          have f7_z : p7 < wc.heap.size := blk_lt hbk7
          have f11_0 : wc.cell? ⟨p11, 0, none⟩ = some (.int .u64 jhi) := by simpa using blk_cell hbk11 0
          have f11_f0 : wc.frozen? ⟨p11, 0, none⟩ = false := blk_frozen hbk11 0
          have f11_1 : wc.cell? ⟨p11, 1, none⟩ = some (.int .u64 jlo) := by simpa using blk_cell hbk11 1
          have f11_f1 : wc.frozen? ⟨p11, 1, none⟩ = false := blk_frozen hbk11 1
          have f11_z : p11 < wc.heap.size := blk_lt hbk11
          have q1 : p7 ≠ p11 := by omega
          have q2 : p11 ≠ p7 := by omega
          have q3 : w.heap.size ≠ p11 := by omega
          have q4 : p11 ≠ w.heap.size := by omega
          have q5 : w.heap.size + 1 ≠ p11 := by omega
          have q6 : p11 ≠ w.heap.size + 1 := by omega
          go_wp2_with fail
          go_region_with (first | (go_at_call 22; (with_reducible refine (HLs.out _).mono ?_); rintro r w40 ⟨hi40, lo40, rfl, hw40, b40⟩; obtain ⟨hc40, hf40⟩ := bcell b40; (try simp only [dr_size, dr_cell] at hc40); (try simp only [dr_size, dr_frozen] at hf40); have hz40 := below_size b40; (try simp at hz40); have zz40_0 : w.heap.size < w40.heap.size := (by omega); have zz40_1 : w.heap.size + 1 < w40.heap.size := (by omega); have zz40_2 : p7 < w40.heap.size := (by omega); have zz40_3 : p11 < w40.heap.size := (by omega)) | (go_at_call 21; (with_reducible refine (HJ2.out _ _ _ _ _ hWJ hw40).mono ?_); rintro r w41 ⟨hi41, lo41, rfl, hw41, b41⟩; obtain ⟨hc41, hf41⟩ := bcell b41; (try simp only [dr_size, dr_cell] at hc41); (try simp only [dr_size, dr_frozen] at hf41); have hz41 := below_size b41; (try simp at hz41); have zz41_0 : w.heap.size < w41.heap.size := (by omega); have zz41_1 : w.heap.size + 1 < w41.heap.size := (by omega); have zz41_2 : p7 < w41.heap.size := (by omega); have zz41_3 : p11 < w41.heap.size := (by omega)))
          all_goals
            go_wp2_with fail
            exact bodyPost_ret (v := .tuple #[wV hi41 lo41, .int .i64 0]) (by simp [results, Tryd.results9, go_sem, *]) rfl ⟨_, _, rfl, hw41, bel⟩
end Go.Proofs.YtiplbpfdkcddlaaDoor
