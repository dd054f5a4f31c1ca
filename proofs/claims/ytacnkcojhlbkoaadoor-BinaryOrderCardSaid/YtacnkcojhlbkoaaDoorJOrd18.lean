/- The law BinaryOrder: its walk: what its calls return makes it answer true. -/
import Derived.Test.YtacnkcojhlbkoaaDoorJOrd17
import Derived.Test.YtacnkcojhlbkoaaDoorJOrd11
set_option linter.unusedSimpArgs false
set_option linter.unusedVariables false
set_option linter.unnecessarySimpa false
namespace Go.Proofs.YtacnkcojhlbkoaaDoor
open Go.RowKit Go.Proofs.YtacnkcojhlbkoaaDoorW.PrintWords Go.Proofs.YtacnkcojhlbkoaaDoorW.PrintLast Go.Proofs.YtacnkcojhlbkoaaDoorW.PrintMore Go.Proofs.YtacnkcojhlbkoaaDoor.NL
set_option maxRecDepth 100000
set_option exponentiation.threshold 33000

set_option maxHeartbeats 16000000 in
theorem ord_A {a0 f hi1 lo1 hi2 lo2 H1 L1 H2 L2 cl1 cl2 ex1 ex2 e2 : Int} {ng1 ng2 ni1 ni2 : Bool} {l1 l2 li1 li2 : List Int} (w : World)
    (hT : Tab w)
    (HWh : Hid (∀ w', Calls Tryd.prog 21 #[.int .u8 a0] w' fun e w'' => e = .returned (.int .i64 f) ∧ Below w'.heap.size w' w''))
    (HC1 : Hid (∀ w', Calls Tryd.prog 22 #[.int .i64 f, .agg #[.int .u64 hi1, .int .u64 lo1]] w' fun e w'' => e = .returned (.agg #[.int .u64 H1, .int .u64 L1]) ∧ Below w'.heap.size w' w''))
    (HD1 : Hid (∀ w', Calls Tryd.prog 15 #[.int .i64 f, .agg #[.int .u64 H1, .int .u64 L1]] w' fun e w'' => ∃ v3 : Value, e = .returned (.tuple #[.agg #[.int .i64 f, .int .i64 cl1, .bool ng1, v3, .int .i64 ex1], .int .i64 0]) ∧ Kd.R (Kd.int .u32) 77 w'' w'.heap.size (fun _ => True) v3 l1 ∧ Below w'.heap.size w' w''))
    (HI1 : Hid (∀ A c w', Kd.C (Kd.int .u32) w' A l1.length l1 → l1.length ≤ c → Calls Tryd.prog 23 #[dV f cl1 ng1 A l1.length c ex1] w' fun e w'' => ∃ v3 : Value, e = .returned (.tuple #[.agg #[.bool ni1, v3], .int .i64 5]) ∧ Kd.R (Kd.int .u32) 77 w'' w'.heap.size (fun _ => True) v3 li1 ∧ Below w'.heap.size w' w''))
    (HC2 : Hid (∀ w', Calls Tryd.prog 22 #[.int .i64 f, .agg #[.int .u64 hi2, .int .u64 lo2]] w' fun e w'' => e = .returned (.agg #[.int .u64 H2, .int .u64 L2]) ∧ Below w'.heap.size w' w''))
    (HD2 : Hid (∀ w', Calls Tryd.prog 15 #[.int .i64 f, .agg #[.int .u64 H2, .int .u64 L2]] w' fun e w'' => ∃ v3 : Value, e = .returned (.tuple #[.agg #[.int .i64 f, .int .i64 cl2, .bool ng2, v3, .int .i64 ex2], .int .i64 0]) ∧ Kd.R (Kd.int .u32) 77 w'' w'.heap.size (fun _ => True) v3 l2 ∧ Below w'.heap.size w' w''))
    (HI2 : Hid (∀ A c w', Kd.C (Kd.int .u32) w' A l2.length l2 → l2.length ≤ c → Calls Tryd.prog 23 #[dV f cl2 ng2 A l2.length c ex2] w' fun e w'' => ∃ v3 : Value, e = .returned (.tuple #[.agg #[.bool ni2, v3], .int .i64 e2]) ∧ Kd.R (Kd.int .u32) 77 w'' w'.heap.size (fun _ => True) v3 li2 ∧ Below w'.heap.size w' w''))
    (HSa : Hid (∀ w', Tab w' → Calls Tryd.prog 11 #[] w' fun e w'' => e = .returned (.bool true) ∧ Below w'.heap.size w' w''))
    (tc : decide (cl1 > 2) = true) :
    Calls Tryd.prog 8 #[.int .u8 a0, .agg #[.int .u64 hi1, .int .u64 lo1], .agg #[.int .u64 hi2, .int .u64 lo2]] w fun e w' => e = .returned (.bool true) ∧ Below w.heap.size w w' := by
  have HT := Lib.hid hT
  clear hT
  go_enter Tryd.func8, Tryd.ntmps8
  go_upto_region 5 with (first | fail | (go_at_call 21; (with_reducible refine (HWh.out _).mono ?_); rintro e w1 ⟨rfl, b1⟩; obtain ⟨hc1, hf1⟩ := bcell b1; have hz1 := below_size b1; (try simp at hz1); have zz1_0 : w.heap.size < w1.heap.size := (by omega); have zz1_1 : w.heap.size + 1 < w1.heap.size := (by omega)) | (go_at_call 22; (with_reducible refine (HC1.out _).mono ?_); rintro e w2 ⟨rfl, b2⟩; obtain ⟨hc2, hf2⟩ := bcell b2; have hz2 := below_size b2; (try simp at hz2); have zz2_0 : w.heap.size < w2.heap.size := (by omega); have zz2_1 : w.heap.size + 1 < w2.heap.size := (by omega)) | (go_at_call 15; (with_reducible refine (HD1.out _).mono ?_); rintro e w3 ⟨v3, rfl, hv3, b3⟩; obtain ⟨A3, c3, rfl⟩ := Kd.R_slice hv3; have HC3 := Lib.hid (R_C hv3); clear hv3; obtain ⟨hc3, hf3⟩ := bcell b3; have hz3 := below_size b3; (try simp at hz3); have zz3_0 : w.heap.size < w3.heap.size := (by omega); have zz3_1 : w.heap.size + 1 < w3.heap.size := (by omega)) | (go_at_call 22; (with_reducible refine (HC2.out _).mono ?_); rintro e w4 ⟨rfl, b4⟩; obtain ⟨hc4, hf4⟩ := bcell b4; have hz4 := below_size b4; (try simp at hz4); have zz4_0 : w.heap.size < w4.heap.size := (by omega); have zz4_1 : w.heap.size + 1 < w4.heap.size := (by omega); have zz4_2 : w3.heap.size < w4.heap.size := (by omega)) | (go_at_call 15; (with_reducible refine (HD2.out _).mono ?_); rintro e w5 ⟨v5, rfl, hv5, b5⟩; obtain ⟨A5, c5, rfl⟩ := Kd.R_slice hv5; have HC5 := Lib.hid (R_C hv5); clear hv5; obtain ⟨hc5, hf5⟩ := bcell b5; have hz5 := below_size b5; (try simp at hz5); have zz5_0 : w.heap.size < w5.heap.size := (by omega); have zz5_1 : w.heap.size + 1 < w5.heap.size := (by omega); have zz5_2 : w3.heap.size < w5.heap.size := (by omega)) | (go_at_call 23; (with_reducible refine (HI1.out _ _ _ (Kd.C_below HC3.out.1 bel) HC3.out.2).mono ?_); rintro e w6 ⟨v6, rfl, hv6, b6⟩; obtain ⟨A6, c6, rfl⟩ := Kd.R_slice hv6; have HC6 := Lib.hid (R_C hv6); clear hv6; obtain ⟨hc6, hf6⟩ := bcell b6; have hz6 := below_size b6; (try simp at hz6); have zz6_0 : w.heap.size < w6.heap.size := (by omega); have zz6_1 : w.heap.size + 1 < w6.heap.size := (by omega); have zz6_2 : w3.heap.size < w6.heap.size := (by omega); have zz6_3 : w5.heap.size < w6.heap.size := (by omega)))
  go_cut [7, 8, 10, 12, 13, 14, 15] (fun v7 v8 v10 v12 v13 v14 v15 wx => ∃ (pa pb pi pk : Nat) (Aa : Option Addr) (ca : Nat) (Ab : Option Addr) (cb : Nat) (Ai : Option Addr) (ci : Nat) (Ak : Option Addr) (ck : Nat), v7 = .int .i64 f ∧ v8 = .pointer (some ⟨pa, 0, none⟩) ∧ v10 = .pointer (some ⟨pb, 0, none⟩) ∧ v12 = .pointer (some ⟨pi, 0, none⟩) ∧ v13 = .int .i64 5 ∧ v14 = .pointer (some ⟨pk, 0, none⟩) ∧ v15 = .int .i64 e2 ∧ BlkIs wx pa 25 (· = #[.int .i64 f, .int .i64 cl1, .bool ng1, .slice Aa l1.length ca, .int .i64 ex1]) ∧ BlkIs wx pb 25 (· = #[.int .i64 f, .int .i64 cl2, .bool ng2, .slice Ab l2.length cb, .int .i64 ex2]) ∧ BlkIs wx pi 48 (· = #[.bool ni1, .slice Ai li1.length ci]) ∧ BlkIs wx pk 48 (· = #[.bool ni2, .slice Ak li2.length ck]) ∧ Hid (Kd.C (Kd.int .u32) wx Aa l1.length l1 ∧ l1.length ≤ ca) ∧ Hid (Kd.C (Kd.int .u32) wx Ab l2.length l2 ∧ l2.length ≤ cb) ∧ Hid (Kd.C (Kd.int .u32) wx Ai li1.length li1 ∧ li1.length ≤ ci) ∧ Hid (Kd.C (Kd.int .u32) wx Ak li2.length li2 ∧ li2.length ≤ ck) ∧ Below w.heap.size w wx)
  case first =>
    go_wp2_with (first | fail | (go_at_call 23; (with_reducible refine (HI2.out _ _ _ (Kd.C_below HC5.out.1 bel) HC5.out.2).mono ?_); rintro e w7 ⟨v7, rfl, hv7, b7⟩; obtain ⟨A7, c7, rfl⟩ := Kd.R_slice hv7; have HC7 := Lib.hid (R_C hv7); clear hv7; obtain ⟨hc7, hf7⟩ := bcell b7; have hz7 := below_size b7; (try simp at hz7); have zz7_0 : w.heap.size < w7.heap.size := (by omega); have zz7_1 : w.heap.size + 1 < w7.heap.size := (by omega); have zz7_2 : w3.heap.size < w7.heap.size := (by omega); have zz7_3 : w5.heap.size < w7.heap.size := (by omega); have zz7_4 : w6.heap.size < w7.heap.size := (by omega)))
    go_meet
    exact ⟨_, _, _, _, _, _, _, _, _, _, _, _, rfl, rfl, rfl, rfl, rfl, rfl, rfl, blk0, blk0, blk0, blk0, Lib.hid ⟨Kd.C_below HC3.out.1 bel, HC3.out.2⟩, Lib.hid ⟨Kd.C_below HC5.out.1 bel, HC5.out.2⟩, Lib.hid ⟨Kd.C_below HC6.out.1 bel, HC6.out.2⟩, Lib.hid ⟨Kd.C_below HC7.out.1 bel, HC7.out.2⟩, bel⟩
  case rest =>
    clear HWh HC1 HC2 HD1 HD2 HI1 HI2
    obtain ⟨pa, pb, pi, pk, Aa, ca, Ab, cb, Ai, ci, Ak, ck, rfl, rfl, rfl, rfl, rfl, rfl, rfl, HBa, HBb, HBi, HBk, HXa, HXb, HXi, HXk, hbw⟩ := hcut
    obtain ⟨csa, hbka, rfl⟩ := HBa
    have a0 : wc.cell? ⟨pa, 0, none⟩ = some (.int .i64 f) := by simpa using blk_cell hbka 0
    have a1 : wc.cell? ⟨pa, 1, none⟩ = some (.int .i64 cl1) := by simpa using blk_cell hbka 1
    have a2 : wc.cell? ⟨pa, 2, none⟩ = some (.bool ng1) := by simpa using blk_cell hbka 2
    have a3 : wc.cell? ⟨pa, 3, none⟩ = some (.slice Aa l1.length ca) := by simpa using blk_cell hbka 3
    have a4 : wc.cell? ⟨pa, 4, none⟩ = some (.int .i64 ex1) := by simpa using blk_cell hbka 4
    have az : pa < wc.heap.size := blk_lt hbka
    have HBah := Lib.hid hbka
    clear hbka
    obtain ⟨csb, hbkb, rfl⟩ := HBb
    have b0 : wc.cell? ⟨pb, 0, none⟩ = some (.int .i64 f) := by simpa using blk_cell hbkb 0
    have b1 : wc.cell? ⟨pb, 1, none⟩ = some (.int .i64 cl2) := by simpa using blk_cell hbkb 1
    have b2 : wc.cell? ⟨pb, 2, none⟩ = some (.bool ng2) := by simpa using blk_cell hbkb 2
    have b3 : wc.cell? ⟨pb, 3, none⟩ = some (.slice Ab l2.length cb) := by simpa using blk_cell hbkb 3
    have b4 : wc.cell? ⟨pb, 4, none⟩ = some (.int .i64 ex2) := by simpa using blk_cell hbkb 4
    have bz : pb < wc.heap.size := blk_lt hbkb
    have HBbh := Lib.hid hbkb
    clear hbkb
    go_wp2_with (first | fail | (go_at_call 11; (with_reducible refine (HSa.out _ (HT.out.below bel)).mono ?_); rintro e w21 ⟨rfl, b21⟩; obtain ⟨hc21, hf21⟩ := bcell b21))
    all_goals
      go_ret
      exact ⟨by simp, bel⟩
set_option maxHeartbeats 16000000 in
theorem ord_B {a0 f hi1 lo1 hi2 lo2 H1 L1 H2 L2 cl1 cl2 ex1 ex2 : Int} {ng1 ng2 ni1 ni2 : Bool} {l1 l2 li1 li2 : List Int} (w : World)
    (hT : Tab w)
    (HWh : Hid (∀ w', Calls Tryd.prog 21 #[.int .u8 a0] w' fun e w'' => e = .returned (.int .i64 f) ∧ Below w'.heap.size w' w''))
    (HC1 : Hid (∀ w', Calls Tryd.prog 22 #[.int .i64 f, .agg #[.int .u64 hi1, .int .u64 lo1]] w' fun e w'' => e = .returned (.agg #[.int .u64 H1, .int .u64 L1]) ∧ Below w'.heap.size w' w''))
    (HD1 : Hid (∀ w', Calls Tryd.prog 15 #[.int .i64 f, .agg #[.int .u64 H1, .int .u64 L1]] w' fun e w'' => ∃ v3 : Value, e = .returned (.tuple #[.agg #[.int .i64 f, .int .i64 cl1, .bool ng1, v3, .int .i64 ex1], .int .i64 0]) ∧ Kd.R (Kd.int .u32) 77 w'' w'.heap.size (fun _ => True) v3 l1 ∧ Below w'.heap.size w' w''))
    (HI1 : Hid (∀ A c w', Kd.C (Kd.int .u32) w' A l1.length l1 → l1.length ≤ c → Calls Tryd.prog 23 #[dV f cl1 ng1 A l1.length c ex1] w' fun e w'' => ∃ v3 : Value, e = .returned (.tuple #[.agg #[.bool ni1, v3], .int .i64 0]) ∧ Kd.R (Kd.int .u32) 77 w'' w'.heap.size (fun _ => True) v3 li1 ∧ Below w'.heap.size w' w''))
    (HC2 : Hid (∀ w', Calls Tryd.prog 22 #[.int .i64 f, .agg #[.int .u64 hi2, .int .u64 lo2]] w' fun e w'' => e = .returned (.agg #[.int .u64 H2, .int .u64 L2]) ∧ Below w'.heap.size w' w''))
    (HD2 : Hid (∀ w', Calls Tryd.prog 15 #[.int .i64 f, .agg #[.int .u64 H2, .int .u64 L2]] w' fun e w'' => ∃ v3 : Value, e = .returned (.tuple #[.agg #[.int .i64 f, .int .i64 cl2, .bool ng2, v3, .int .i64 ex2], .int .i64 0]) ∧ Kd.R (Kd.int .u32) 77 w'' w'.heap.size (fun _ => True) v3 l2 ∧ Below w'.heap.size w' w''))
    (HI2 : Hid (∀ A c w', Kd.C (Kd.int .u32) w' A l2.length l2 → l2.length ≤ c → Calls Tryd.prog 23 #[dV f cl2 ng2 A l2.length c ex2] w' fun e w'' => ∃ v3 : Value, e = .returned (.tuple #[.agg #[.bool ni2, v3], .int .i64 5]) ∧ Kd.R (Kd.int .u32) 77 w'' w'.heap.size (fun _ => True) v3 li2 ∧ Below w'.heap.size w' w''))
    (HSa : Hid (∀ w', Tab w' → Calls Tryd.prog 11 #[] w' fun e w'' => e = .returned (.bool true) ∧ Below w'.heap.size w' w''))
    (tc : decide (cl1 > 2) = false) (td : decide (cl2 > 2) = true) :
    Calls Tryd.prog 8 #[.int .u8 a0, .agg #[.int .u64 hi1, .int .u64 lo1], .agg #[.int .u64 hi2, .int .u64 lo2]] w fun e w' => e = .returned (.bool true) ∧ Below w.heap.size w w' := by
  have HT := Lib.hid hT
  clear hT
  go_enter Tryd.func8, Tryd.ntmps8
  go_upto_region 5 with (first | fail | (go_at_call 21; (with_reducible refine (HWh.out _).mono ?_); rintro e w1 ⟨rfl, b1⟩; obtain ⟨hc1, hf1⟩ := bcell b1; have hz1 := below_size b1; (try simp at hz1); have zz1_0 : w.heap.size < w1.heap.size := (by omega); have zz1_1 : w.heap.size + 1 < w1.heap.size := (by omega)) | (go_at_call 22; (with_reducible refine (HC1.out _).mono ?_); rintro e w2 ⟨rfl, b2⟩; obtain ⟨hc2, hf2⟩ := bcell b2; have hz2 := below_size b2; (try simp at hz2); have zz2_0 : w.heap.size < w2.heap.size := (by omega); have zz2_1 : w.heap.size + 1 < w2.heap.size := (by omega)) | (go_at_call 15; (with_reducible refine (HD1.out _).mono ?_); rintro e w3 ⟨v3, rfl, hv3, b3⟩; obtain ⟨A3, c3, rfl⟩ := Kd.R_slice hv3; have HC3 := Lib.hid (R_C hv3); clear hv3; obtain ⟨hc3, hf3⟩ := bcell b3; have hz3 := below_size b3; (try simp at hz3); have zz3_0 : w.heap.size < w3.heap.size := (by omega); have zz3_1 : w.heap.size + 1 < w3.heap.size := (by omega)) | (go_at_call 22; (with_reducible refine (HC2.out _).mono ?_); rintro e w4 ⟨rfl, b4⟩; obtain ⟨hc4, hf4⟩ := bcell b4; have hz4 := below_size b4; (try simp at hz4); have zz4_0 : w.heap.size < w4.heap.size := (by omega); have zz4_1 : w.heap.size + 1 < w4.heap.size := (by omega); have zz4_2 : w3.heap.size < w4.heap.size := (by omega)) | (go_at_call 15; (with_reducible refine (HD2.out _).mono ?_); rintro e w5 ⟨v5, rfl, hv5, b5⟩; obtain ⟨A5, c5, rfl⟩ := Kd.R_slice hv5; have HC5 := Lib.hid (R_C hv5); clear hv5; obtain ⟨hc5, hf5⟩ := bcell b5; have hz5 := below_size b5; (try simp at hz5); have zz5_0 : w.heap.size < w5.heap.size := (by omega); have zz5_1 : w.heap.size + 1 < w5.heap.size := (by omega); have zz5_2 : w3.heap.size < w5.heap.size := (by omega)) | (go_at_call 23; (with_reducible refine (HI1.out _ _ _ (Kd.C_below HC3.out.1 bel) HC3.out.2).mono ?_); rintro e w6 ⟨v6, rfl, hv6, b6⟩; obtain ⟨A6, c6, rfl⟩ := Kd.R_slice hv6; have HC6 := Lib.hid (R_C hv6); clear hv6; obtain ⟨hc6, hf6⟩ := bcell b6; have hz6 := below_size b6; (try simp at hz6); have zz6_0 : w.heap.size < w6.heap.size := (by omega); have zz6_1 : w.heap.size + 1 < w6.heap.size := (by omega); have zz6_2 : w3.heap.size < w6.heap.size := (by omega); have zz6_3 : w5.heap.size < w6.heap.size := (by omega)))
  go_cut [7, 8, 10, 12, 13, 14, 15] (fun v7 v8 v10 v12 v13 v14 v15 wx => ∃ (pa pb pi pk : Nat) (Aa : Option Addr) (ca : Nat) (Ab : Option Addr) (cb : Nat) (Ai : Option Addr) (ci : Nat) (Ak : Option Addr) (ck : Nat), v7 = .int .i64 f ∧ v8 = .pointer (some ⟨pa, 0, none⟩) ∧ v10 = .pointer (some ⟨pb, 0, none⟩) ∧ v12 = .pointer (some ⟨pi, 0, none⟩) ∧ v13 = .int .i64 0 ∧ v14 = .pointer (some ⟨pk, 0, none⟩) ∧ v15 = .int .i64 5 ∧ BlkIs wx pa 25 (· = #[.int .i64 f, .int .i64 cl1, .bool ng1, .slice Aa l1.length ca, .int .i64 ex1]) ∧ BlkIs wx pb 25 (· = #[.int .i64 f, .int .i64 cl2, .bool ng2, .slice Ab l2.length cb, .int .i64 ex2]) ∧ BlkIs wx pi 48 (· = #[.bool ni1, .slice Ai li1.length ci]) ∧ BlkIs wx pk 48 (· = #[.bool ni2, .slice Ak li2.length ck]) ∧ Hid (Kd.C (Kd.int .u32) wx Aa l1.length l1 ∧ l1.length ≤ ca) ∧ Hid (Kd.C (Kd.int .u32) wx Ab l2.length l2 ∧ l2.length ≤ cb) ∧ Hid (Kd.C (Kd.int .u32) wx Ai li1.length li1 ∧ li1.length ≤ ci) ∧ Hid (Kd.C (Kd.int .u32) wx Ak li2.length li2 ∧ li2.length ≤ ck) ∧ Below w.heap.size w wx)
  case first =>
    go_wp2_with (first | fail | (go_at_call 23; (with_reducible refine (HI2.out _ _ _ (Kd.C_below HC5.out.1 bel) HC5.out.2).mono ?_); rintro e w7 ⟨v7, rfl, hv7, b7⟩; obtain ⟨A7, c7, rfl⟩ := Kd.R_slice hv7; have HC7 := Lib.hid (R_C hv7); clear hv7; obtain ⟨hc7, hf7⟩ := bcell b7; have hz7 := below_size b7; (try simp at hz7); have zz7_0 : w.heap.size < w7.heap.size := (by omega); have zz7_1 : w.heap.size + 1 < w7.heap.size := (by omega); have zz7_2 : w3.heap.size < w7.heap.size := (by omega); have zz7_3 : w5.heap.size < w7.heap.size := (by omega); have zz7_4 : w6.heap.size < w7.heap.size := (by omega)))
    go_meet
    exact ⟨_, _, _, _, _, _, _, _, _, _, _, _, rfl, rfl, rfl, rfl, rfl, rfl, rfl, blk0, blk0, blk0, blk0, Lib.hid ⟨Kd.C_below HC3.out.1 bel, HC3.out.2⟩, Lib.hid ⟨Kd.C_below HC5.out.1 bel, HC5.out.2⟩, Lib.hid ⟨Kd.C_below HC6.out.1 bel, HC6.out.2⟩, Lib.hid ⟨Kd.C_below HC7.out.1 bel, HC7.out.2⟩, bel⟩
  case rest =>
    clear HWh HC1 HC2 HD1 HD2 HI1 HI2
    obtain ⟨pa, pb, pi, pk, Aa, ca, Ab, cb, Ai, ci, Ak, ck, rfl, rfl, rfl, rfl, rfl, rfl, rfl, HBa, HBb, HBi, HBk, HXa, HXb, HXi, HXk, hbw⟩ := hcut
    obtain ⟨csa, hbka, rfl⟩ := HBa
    have a0 : wc.cell? ⟨pa, 0, none⟩ = some (.int .i64 f) := by simpa using blk_cell hbka 0
    have a1 : wc.cell? ⟨pa, 1, none⟩ = some (.int .i64 cl1) := by simpa using blk_cell hbka 1
    have a2 : wc.cell? ⟨pa, 2, none⟩ = some (.bool ng1) := by simpa using blk_cell hbka 2
    have a3 : wc.cell? ⟨pa, 3, none⟩ = some (.slice Aa l1.length ca) := by simpa using blk_cell hbka 3
    have a4 : wc.cell? ⟨pa, 4, none⟩ = some (.int .i64 ex1) := by simpa using blk_cell hbka 4
    have az : pa < wc.heap.size := blk_lt hbka
    have HBah := Lib.hid hbka
    clear hbka
    obtain ⟨csb, hbkb, rfl⟩ := HBb
    have b0 : wc.cell? ⟨pb, 0, none⟩ = some (.int .i64 f) := by simpa using blk_cell hbkb 0
    have b1 : wc.cell? ⟨pb, 1, none⟩ = some (.int .i64 cl2) := by simpa using blk_cell hbkb 1
    have b2 : wc.cell? ⟨pb, 2, none⟩ = some (.bool ng2) := by simpa using blk_cell hbkb 2
    have b3 : wc.cell? ⟨pb, 3, none⟩ = some (.slice Ab l2.length cb) := by simpa using blk_cell hbkb 3
    have b4 : wc.cell? ⟨pb, 4, none⟩ = some (.int .i64 ex2) := by simpa using blk_cell hbkb 4
    have bz : pb < wc.heap.size := blk_lt hbkb
    have HBbh := Lib.hid hbkb
    clear hbkb
    go_wp2_with (first | fail | (go_at_call 11; (with_reducible refine (HSa.out _ (HT.out.below bel)).mono ?_); rintro e w21 ⟨rfl, b21⟩; obtain ⟨hc21, hf21⟩ := bcell b21))
    all_goals
      go_ret
      exact ⟨by simp, bel⟩
set_option maxHeartbeats 16000000 in
theorem ord_FFs {a0 f hi1 lo1 hi2 lo2 H1 L1 H2 L2 ex1 ex2 clb exb cc vv xe1 xe2 : Int} {ng1 ng2 ni1 ni2 ngb nx1 nx2 : Bool} {l1 l2 li1 li2 lb lx1 lx2 : List Int} (w : World)
    (hT : Tab w)
    (HWh : Hid (∀ w', Calls Tryd.prog 21 #[.int .u8 a0] w' fun e w'' => e = .returned (.int .i64 f) ∧ Below w'.heap.size w' w''))
    (HC1 : Hid (∀ w', Calls Tryd.prog 22 #[.int .i64 f, .agg #[.int .u64 hi1, .int .u64 lo1]] w' fun e w'' => e = .returned (.agg #[.int .u64 H1, .int .u64 L1]) ∧ Below w'.heap.size w' w''))
    (HD1 : Hid (∀ w', Calls Tryd.prog 15 #[.int .i64 f, .agg #[.int .u64 H1, .int .u64 L1]] w' fun e w'' => ∃ v3 : Value, e = .returned (.tuple #[.agg #[.int .i64 f, .int .i64 1, .bool ng1, v3, .int .i64 ex1], .int .i64 0]) ∧ Kd.R (Kd.int .u32) 77 w'' w'.heap.size (fun _ => True) v3 l1 ∧ Below w'.heap.size w' w''))
    (HI1 : Hid (∀ A c w', Kd.C (Kd.int .u32) w' A l1.length l1 → l1.length ≤ c → Calls Tryd.prog 23 #[dV f 1 ng1 A l1.length c ex1] w' fun e w'' => ∃ v3 : Value, e = .returned (.tuple #[.agg #[.bool ni1, v3], .int .i64 0]) ∧ Kd.R (Kd.int .u32) 77 w'' w'.heap.size (fun _ => True) v3 li1 ∧ Below w'.heap.size w' w''))
    (HC2 : Hid (∀ w', Calls Tryd.prog 22 #[.int .i64 f, .agg #[.int .u64 hi2, .int .u64 lo2]] w' fun e w'' => e = .returned (.agg #[.int .u64 H2, .int .u64 L2]) ∧ Below w'.heap.size w' w''))
    (HD2 : Hid (∀ w', Calls Tryd.prog 15 #[.int .i64 f, .agg #[.int .u64 H2, .int .u64 L2]] w' fun e w'' => ∃ v3 : Value, e = .returned (.tuple #[.agg #[.int .i64 f, .int .i64 1, .bool ng2, v3, .int .i64 ex2], .int .i64 0]) ∧ Kd.R (Kd.int .u32) 77 w'' w'.heap.size (fun _ => True) v3 l2 ∧ Below w'.heap.size w' w''))
    (HI2 : Hid (∀ A c w', Kd.C (Kd.int .u32) w' A l2.length l2 → l2.length ≤ c → Calls Tryd.prog 23 #[dV f 1 ng2 A l2.length c ex2] w' fun e w'' => ∃ v3 : Value, e = .returned (.tuple #[.agg #[.bool ni2, v3], .int .i64 0]) ∧ Kd.R (Kd.int .u32) 77 w'' w'.heap.size (fun _ => True) v3 li2 ∧ Below w'.heap.size w' w''))
    (HSa : Hid (∀ w', Tab w' → Calls Tryd.prog 11 #[] w' fun e w'' => e = .returned (.bool true) ∧ Below w'.heap.size w' w''))
    (HAt : Hid (∀ A c w', Kd.C (Kd.int .u32) w' A li1.length li1 → li1.length ≤ c → Calls Tryd.prog 33 #[.int .i64 f, .agg #[.bool ni1, .slice A li1.length c]] w' fun e w'' => ∃ v3 : Value, e = .returned (.tuple #[.agg #[.int .i64 f, .int .i64 clb, .bool ngb, v3, .int .i64 exb], .int .i64 0]) ∧ Kd.R (Kd.int .u32) 77 w'' w'.heap.size (fun _ => True) v3 lb ∧ Below w'.heap.size w' w''))
    (HSm : Hid (∀ A c A' c' w', Kd.C (Kd.int .u32) w' A lb.length lb → lb.length ≤ c → Kd.C (Kd.int .u32) w' A' l1.length l1 → l1.length ≤ c' → Calls Tryd.prog 19 #[.agg #[.int .i64 f, .int .i64 clb, .bool ngb, .slice A lb.length c, .int .i64 exb], .agg #[.int .i64 f, .int .i64 1, .bool ng1, .slice A' l1.length c', .int .i64 ex1]] w' fun e w'' => e = .returned (.bool true) ∧ Below w'.heap.size w' w''))
    (HOI : Hid (∀ A c A' c' w', Kd.C (Kd.int .u32) w' A li1.length li1 → li1.length ≤ c → Kd.C (Kd.int .u32) w' A' li2.length li2 → li2.length ≤ c' → Calls Tryd.prog 34 #[.agg #[.bool ni1, .slice A li1.length c], .agg #[.bool ni2, .slice A' li2.length c']] w' fun e w'' => e = .returned (.int .i64 cc) ∧ Below w'.heap.size w' w''))
    (HV1 : Hid (∀ A c w', Tab w' → Kd.C (Kd.int .u32) w' A l1.length l1 → l1.length ≤ c → Calls Tryd.prog 30 #[dV f 1 ng1 A l1.length c ex1] w' fun e w'' => ∃ v3 : Value, e = .returned (.tuple #[.agg #[.bool nx1, v3, .int .i64 xe1], .int .i64 0]) ∧ Kd.R (Kd.int .u32) 77 w'' w'.heap.size (fun _ => True) v3 lx1 ∧ Below w'.heap.size w' w''))
    (HV2 : Hid (∀ A c w', Tab w' → Kd.C (Kd.int .u32) w' A l2.length l2 → l2.length ≤ c → Calls Tryd.prog 30 #[dV f 1 ng2 A l2.length c ex2] w' fun e w'' => ∃ v3 : Value, e = .returned (.tuple #[.agg #[.bool nx2, v3, .int .i64 xe2], .int .i64 0]) ∧ Kd.R (Kd.int .u32) 77 w'' w'.heap.size (fun _ => True) v3 lx2 ∧ Below w'.heap.size w' w''))
    (HO : Hid (∀ A c A' c' w', Kd.C (Kd.int .u32) w' A lx1.length lx1 → lx1.length ≤ c → Kd.C (Kd.int .u32) w' A' lx2.length lx2 → lx2.length ≤ c' → Calls Tryd.prog 35 #[.agg #[.bool nx1, .slice A lx1.length c, .int .i64 xe1], .agg #[.bool nx2, .slice A' lx2.length c', .int .i64 xe2]] w' fun e w'' => e = .returned (.int .i64 vv) ∧ Below w'.heap.size w' w''))
    (t1 : decide (cc > 0) = decide (vv > 0)) (t2 : decide (cc < 0) = decide (vv < 0)) :
    Calls Tryd.prog 8 #[.int .u8 a0, .agg #[.int .u64 hi1, .int .u64 lo1], .agg #[.int .u64 hi2, .int .u64 lo2]] w fun e w' => e = .returned (.bool true) ∧ Below w.heap.size w w' := by
  have HT := Lib.hid hT
  clear hT
  go_enter Tryd.func8, Tryd.ntmps8
  go_upto_region 5 with (first | fail | (go_at_call 21; (with_reducible refine (HWh.out _).mono ?_); rintro e w1 ⟨rfl, b1⟩; obtain ⟨hc1, hf1⟩ := bcell b1; have hz1 := below_size b1; (try simp at hz1); have zz1_0 : w.heap.size < w1.heap.size := (by omega); have zz1_1 : w.heap.size + 1 < w1.heap.size := (by omega)) | (go_at_call 22; (with_reducible refine (HC1.out _).mono ?_); rintro e w2 ⟨rfl, b2⟩; obtain ⟨hc2, hf2⟩ := bcell b2; have hz2 := below_size b2; (try simp at hz2); have zz2_0 : w.heap.size < w2.heap.size := (by omega); have zz2_1 : w.heap.size + 1 < w2.heap.size := (by omega)) | (go_at_call 15; (with_reducible refine (HD1.out _).mono ?_); rintro e w3 ⟨v3, rfl, hv3, b3⟩; obtain ⟨A3, c3, rfl⟩ := Kd.R_slice hv3; have HC3 := Lib.hid (R_C hv3); clear hv3; obtain ⟨hc3, hf3⟩ := bcell b3; have hz3 := below_size b3; (try simp at hz3); have zz3_0 : w.heap.size < w3.heap.size := (by omega); have zz3_1 : w.heap.size + 1 < w3.heap.size := (by omega)) | (go_at_call 22; (with_reducible refine (HC2.out _).mono ?_); rintro e w4 ⟨rfl, b4⟩; obtain ⟨hc4, hf4⟩ := bcell b4; have hz4 := below_size b4; (try simp at hz4); have zz4_0 : w.heap.size < w4.heap.size := (by omega); have zz4_1 : w.heap.size + 1 < w4.heap.size := (by omega); have zz4_2 : w3.heap.size < w4.heap.size := (by omega)) | (go_at_call 15; (with_reducible refine (HD2.out _).mono ?_); rintro e w5 ⟨v5, rfl, hv5, b5⟩; obtain ⟨A5, c5, rfl⟩ := Kd.R_slice hv5; have HC5 := Lib.hid (R_C hv5); clear hv5; obtain ⟨hc5, hf5⟩ := bcell b5; have hz5 := below_size b5; (try simp at hz5); have zz5_0 : w.heap.size < w5.heap.size := (by omega); have zz5_1 : w.heap.size + 1 < w5.heap.size := (by omega); have zz5_2 : w3.heap.size < w5.heap.size := (by omega)) | (go_at_call 23; (with_reducible refine (HI1.out _ _ _ (Kd.C_below HC3.out.1 bel) HC3.out.2).mono ?_); rintro e w6 ⟨v6, rfl, hv6, b6⟩; obtain ⟨A6, c6, rfl⟩ := Kd.R_slice hv6; have HC6 := Lib.hid (R_C hv6); clear hv6; obtain ⟨hc6, hf6⟩ := bcell b6; have hz6 := below_size b6; (try simp at hz6); have zz6_0 : w.heap.size < w6.heap.size := (by omega); have zz6_1 : w.heap.size + 1 < w6.heap.size := (by omega); have zz6_2 : w3.heap.size < w6.heap.size := (by omega); have zz6_3 : w5.heap.size < w6.heap.size := (by omega)))
  go_cut [7, 8, 10, 12, 13, 14, 15] (fun v7 v8 v10 v12 v13 v14 v15 wx => ∃ (pa pb pi pk : Nat) (Aa : Option Addr) (ca : Nat) (Ab : Option Addr) (cb : Nat) (Ai : Option Addr) (ci : Nat) (Ak : Option Addr) (ck : Nat), v7 = .int .i64 f ∧ v8 = .pointer (some ⟨pa, 0, none⟩) ∧ v10 = .pointer (some ⟨pb, 0, none⟩) ∧ v12 = .pointer (some ⟨pi, 0, none⟩) ∧ v13 = .int .i64 0 ∧ v14 = .pointer (some ⟨pk, 0, none⟩) ∧ v15 = .int .i64 0 ∧ BlkIs wx pa 25 (· = #[.int .i64 f, .int .i64 1, .bool ng1, .slice Aa l1.length ca, .int .i64 ex1]) ∧ BlkIs wx pb 25 (· = #[.int .i64 f, .int .i64 1, .bool ng2, .slice Ab l2.length cb, .int .i64 ex2]) ∧ BlkIs wx pi 48 (· = #[.bool ni1, .slice Ai li1.length ci]) ∧ BlkIs wx pk 48 (· = #[.bool ni2, .slice Ak li2.length ck]) ∧ Hid (Kd.C (Kd.int .u32) wx Aa l1.length l1 ∧ l1.length ≤ ca) ∧ Hid (Kd.C (Kd.int .u32) wx Ab l2.length l2 ∧ l2.length ≤ cb) ∧ Hid (Kd.C (Kd.int .u32) wx Ai li1.length li1 ∧ li1.length ≤ ci) ∧ Hid (Kd.C (Kd.int .u32) wx Ak li2.length li2 ∧ li2.length ≤ ck) ∧ Below w.heap.size w wx)
  case first =>
    go_wp2_with (first | fail | (go_at_call 23; (with_reducible refine (HI2.out _ _ _ (Kd.C_below HC5.out.1 bel) HC5.out.2).mono ?_); rintro e w7 ⟨v7, rfl, hv7, b7⟩; obtain ⟨A7, c7, rfl⟩ := Kd.R_slice hv7; have HC7 := Lib.hid (R_C hv7); clear hv7; obtain ⟨hc7, hf7⟩ := bcell b7; have hz7 := below_size b7; (try simp at hz7); have zz7_0 : w.heap.size < w7.heap.size := (by omega); have zz7_1 : w.heap.size + 1 < w7.heap.size := (by omega); have zz7_2 : w3.heap.size < w7.heap.size := (by omega); have zz7_3 : w5.heap.size < w7.heap.size := (by omega); have zz7_4 : w6.heap.size < w7.heap.size := (by omega)))
    go_meet
    exact ⟨_, _, _, _, _, _, _, _, _, _, _, _, rfl, rfl, rfl, rfl, rfl, rfl, rfl, blk0, blk0, blk0, blk0, Lib.hid ⟨Kd.C_below HC3.out.1 bel, HC3.out.2⟩, Lib.hid ⟨Kd.C_below HC5.out.1 bel, HC5.out.2⟩, Lib.hid ⟨Kd.C_below HC6.out.1 bel, HC6.out.2⟩, Lib.hid ⟨Kd.C_below HC7.out.1 bel, HC7.out.2⟩, bel⟩
  case rest =>
    clear HWh HC1 HC2 HD1 HD2 HI1 HI2
    obtain ⟨pa, pb, pi, pk, Aa, ca, Ab, cb, Ai, ci, Ak, ck, rfl, rfl, rfl, rfl, rfl, rfl, rfl, HBa, HBb, HBi, HBk, HXa, HXb, HXi, HXk, hbw⟩ := hcut
    obtain ⟨csa, hbka, rfl⟩ := HBa
    have a0 : wc.cell? ⟨pa, 0, none⟩ = some (.int .i64 f) := by simpa using blk_cell hbka 0
    have a1 : wc.cell? ⟨pa, 1, none⟩ = some (.int .i64 1) := by simpa using blk_cell hbka 1
    have a2 : wc.cell? ⟨pa, 2, none⟩ = some (.bool ng1) := by simpa using blk_cell hbka 2
    have a3 : wc.cell? ⟨pa, 3, none⟩ = some (.slice Aa l1.length ca) := by simpa using blk_cell hbka 3
    have a4 : wc.cell? ⟨pa, 4, none⟩ = some (.int .i64 ex1) := by simpa using blk_cell hbka 4
    have az : pa < wc.heap.size := blk_lt hbka
    have HBah := Lib.hid hbka
    clear hbka
    obtain ⟨csb, hbkb, rfl⟩ := HBb
    have b0 : wc.cell? ⟨pb, 0, none⟩ = some (.int .i64 f) := by simpa using blk_cell hbkb 0
    have b1 : wc.cell? ⟨pb, 1, none⟩ = some (.int .i64 1) := by simpa using blk_cell hbkb 1
    have b2 : wc.cell? ⟨pb, 2, none⟩ = some (.bool ng2) := by simpa using blk_cell hbkb 2
    have b3 : wc.cell? ⟨pb, 3, none⟩ = some (.slice Ab l2.length cb) := by simpa using blk_cell hbkb 3
    have b4 : wc.cell? ⟨pb, 4, none⟩ = some (.int .i64 ex2) := by simpa using blk_cell hbkb 4
    have bz : pb < wc.heap.size := blk_lt hbkb
    have HBbh := Lib.hid hbkb
    clear hbkb
    obtain ⟨csi, hbki, rfl⟩ := HBi
    have i0 : wc.cell? ⟨pi, 0, none⟩ = some (.bool ni1) := by simpa using blk_cell hbki 0
    have i1 : wc.cell? ⟨pi, 1, none⟩ = some (.slice Ai li1.length ci) := by simpa using blk_cell hbki 1
    have iz : pi < wc.heap.size := blk_lt hbki
    have HBih := Lib.hid hbki
    clear hbki
    obtain ⟨csk, hbkk, rfl⟩ := HBk
    have k0 : wc.cell? ⟨pk, 0, none⟩ = some (.bool ni2) := by simpa using blk_cell hbkk 0
    have k1 : wc.cell? ⟨pk, 1, none⟩ = some (.slice Ak li2.length ck) := by simpa using blk_cell hbkk 1
    have kz : pk < wc.heap.size := blk_lt hbkk
    have HBkh := Lib.hid hbkk
    clear hbkk
    go_upto_region 9 with (first | fail | (go_at_call 33; (with_reducible refine (HAt.out _ _ _ (Kd.C_below HXi.out.1 bel) HXi.out.2).mono ?_); rintro e w8 ⟨v8, rfl, hv8, b8⟩; obtain ⟨A8, c8, rfl⟩ := Kd.R_slice hv8; have HC8 := Lib.hid (R_C hv8); clear hv8; obtain ⟨hc8, hf8⟩ := bcell b8; have hz8 := below_size b8; (try simp at hz8); have zz8_0 : pa < w8.heap.size := (by omega); have zz8_1 : pb < w8.heap.size := (by omega); have zz8_2 : pi < w8.heap.size := (by omega); have zz8_3 : pk < w8.heap.size := (by omega)))
    go_cut [8, 10, 12, 14, 16, 17, 18] (fun v8 v10 v12 v14 v16 v17 v18 wx => ∃ (pz p0 : Nat) (Az : Option Addr) (cz : Nat), v8 = .pointer (some ⟨pa, 0, none⟩) ∧ v10 = .pointer (some ⟨pb, 0, none⟩) ∧ v12 = .pointer (some ⟨pi, 0, none⟩) ∧ v14 = .pointer (some ⟨pk, 0, none⟩) ∧ v16 = .pointer (some ⟨pz, 0, none⟩) ∧ v17 = .int .i64 0 ∧ v18 = .pointer (some ⟨p0, 0, none⟩) ∧ BlkIs wx pa 25 (· = #[.int .i64 f, .int .i64 1, .bool ng1, .slice Aa l1.length ca, .int .i64 ex1]) ∧ BlkIs wx pb 25 (· = #[.int .i64 f, .int .i64 1, .bool ng2, .slice Ab l2.length cb, .int .i64 ex2]) ∧ BlkIs wx pi 48 (· = #[.bool ni1, .slice Ai li1.length ci]) ∧ BlkIs wx pk 48 (· = #[.bool ni2, .slice Ak li2.length ck]) ∧ BlkIs wx pz 25 (· = #[.int .i64 f, .int .i64 clb, .bool ngb, .slice Az lb.length cz, .int .i64 exb]) ∧ BlkIs wx p0 25 (· = #[.int .i64 f, .int .i64 1, .bool true, .slice none 0 0, .int .i64 ex1]) ∧ Hid (Kd.C (Kd.int .u32) wx Aa l1.length l1 ∧ l1.length ≤ ca) ∧ Hid (Kd.C (Kd.int .u32) wx Ab l2.length l2 ∧ l2.length ≤ cb) ∧ Hid (Kd.C (Kd.int .u32) wx Ai li1.length li1 ∧ li1.length ≤ ci) ∧ Hid (Kd.C (Kd.int .u32) wx Ak li2.length li2 ∧ li2.length ≤ ck) ∧ Hid (Kd.C (Kd.int .u32) wx Az lb.length lb ∧ lb.length ≤ cz) ∧ Below w.heap.size w wx)
    case first =>
      go_wp2_with fail
      go_meet
      have hbka := HBah.out
      have hbkb := HBbh.out
      have hbki := HBih.out
      have hbkk := HBkh.out
      exact ⟨_, _, _, _, rfl, rfl, rfl, rfl, rfl, rfl, rfl, blk1, blk1, blk1, blk1, blk0, blk0, Lib.hid ⟨Kd.C_below HXa.out.1 bel, HXa.out.2⟩, Lib.hid ⟨Kd.C_below HXb.out.1 bel, HXb.out.2⟩, Lib.hid ⟨Kd.C_below HXi.out.1 bel, HXi.out.2⟩, Lib.hid ⟨Kd.C_below HXk.out.1 bel, HXk.out.2⟩, Lib.hid ⟨Kd.C_below HC8.out.1 bel, HC8.out.2⟩, bel⟩
    case rest =>
      clear HAt HBah HBbh HBih HBkh HXa HXb HXi HXk hbw a0 a1 a2 a3 a4 az b0 b1 b2 b3 b4 bz i0 i1 iz k0 k1 kz
      obtain ⟨pz, p0, Az, cz, rfl, rfl, rfl, rfl, rfl, rfl, rfl, HBa, HBb, HBi, HBk, HBz, HBo, HXa, HXb, HXi, HXk, HXz, hbw⟩ := hcut
      obtain ⟨csa, hbka, rfl⟩ := HBa
      have a0 : wc.cell? ⟨pa, 0, none⟩ = some (.int .i64 f) := by simpa using blk_cell hbka 0
      have a1 : wc.cell? ⟨pa, 1, none⟩ = some (.int .i64 1) := by simpa using blk_cell hbka 1
      have a2 : wc.cell? ⟨pa, 2, none⟩ = some (.bool ng1) := by simpa using blk_cell hbka 2
      have a3 : wc.cell? ⟨pa, 3, none⟩ = some (.slice Aa l1.length ca) := by simpa using blk_cell hbka 3
      have a4 : wc.cell? ⟨pa, 4, none⟩ = some (.int .i64 ex1) := by simpa using blk_cell hbka 4
      have az : pa < wc.heap.size := blk_lt hbka
      have HBah := Lib.hid hbka
      clear hbka
      obtain ⟨csb, hbkb, rfl⟩ := HBb
      have b0 : wc.cell? ⟨pb, 0, none⟩ = some (.int .i64 f) := by simpa using blk_cell hbkb 0
      have b1 : wc.cell? ⟨pb, 1, none⟩ = some (.int .i64 1) := by simpa using blk_cell hbkb 1
      have b2 : wc.cell? ⟨pb, 2, none⟩ = some (.bool ng2) := by simpa using blk_cell hbkb 2
      have b3 : wc.cell? ⟨pb, 3, none⟩ = some (.slice Ab l2.length cb) := by simpa using blk_cell hbkb 3
      have b4 : wc.cell? ⟨pb, 4, none⟩ = some (.int .i64 ex2) := by simpa using blk_cell hbkb 4
      have bz : pb < wc.heap.size := blk_lt hbkb
      have HBbh := Lib.hid hbkb
      clear hbkb
      obtain ⟨csi, hbki, rfl⟩ := HBi
      have i0 : wc.cell? ⟨pi, 0, none⟩ = some (.bool ni1) := by simpa using blk_cell hbki 0
      have i1 : wc.cell? ⟨pi, 1, none⟩ = some (.slice Ai li1.length ci) := by simpa using blk_cell hbki 1
      have iz : pi < wc.heap.size := blk_lt hbki
      have HBih := Lib.hid hbki
      clear hbki
      obtain ⟨csk, hbkk, rfl⟩ := HBk
      have k0 : wc.cell? ⟨pk, 0, none⟩ = some (.bool ni2) := by simpa using blk_cell hbkk 0
      have k1 : wc.cell? ⟨pk, 1, none⟩ = some (.slice Ak li2.length ck) := by simpa using blk_cell hbkk 1
      have kz : pk < wc.heap.size := blk_lt hbkk
      have HBkh := Lib.hid hbkk
      clear hbkk
      obtain ⟨csz, hbkz, rfl⟩ := HBz
      have z0 : wc.cell? ⟨pz, 0, none⟩ = some (.int .i64 f) := by simpa using blk_cell hbkz 0
      have z1 : wc.cell? ⟨pz, 1, none⟩ = some (.int .i64 clb) := by simpa using blk_cell hbkz 1
      have z2 : wc.cell? ⟨pz, 2, none⟩ = some (.bool ngb) := by simpa using blk_cell hbkz 2
      have z3 : wc.cell? ⟨pz, 3, none⟩ = some (.slice Az lb.length cz) := by simpa using blk_cell hbkz 3
      have z4 : wc.cell? ⟨pz, 4, none⟩ = some (.int .i64 exb) := by simpa using blk_cell hbkz 4
      have zz : pz < wc.heap.size := blk_lt hbkz
      have HBzh := Lib.hid hbkz
      clear hbkz
      obtain ⟨cso, hbko, rfl⟩ := HBo
      have o0 : wc.cell? ⟨p0, 0, none⟩ = some (.int .i64 f) := by simpa using blk_cell hbko 0
      have o1 : wc.cell? ⟨p0, 1, none⟩ = some (.int .i64 1) := by simpa using blk_cell hbko 1
      have o2 : wc.cell? ⟨p0, 2, none⟩ = some (.bool true) := by simpa using blk_cell hbko 2
      have o3 : wc.cell? ⟨p0, 3, none⟩ = some (.slice none 0 0) := by simpa using blk_cell hbko 3
      have o4 : wc.cell? ⟨p0, 4, none⟩ = some (.int .i64 ex1) := by simpa using blk_cell hbko 4
      have oz : p0 < wc.heap.size := blk_lt hbko
      have HBoh := Lib.hid hbko
      clear hbko
      go_wp2_with (first | fail | (go_at_call 19; (with_reducible refine (HSm.out _ _ _ _ _ (Kd.C_below HXz.out.1 bel) HXz.out.2 (Kd.C_below HXa.out.1 bel) HXa.out.2).mono ?_); rintro e w9 ⟨rfl, b9⟩; obtain ⟨hc9, hf9⟩ := bcell b9; have hz9 := below_size b9; (try simp at hz9); have zz9_0 : pa < w9.heap.size := (by omega); have zz9_1 : pb < w9.heap.size := (by omega); have zz9_2 : pi < w9.heap.size := (by omega); have zz9_3 : pk < w9.heap.size := (by omega); have zz9_4 : pz < w9.heap.size := (by omega); have zz9_5 : p0 < w9.heap.size := (by omega)) | (go_at_call 34; (with_reducible refine (HOI.out _ _ _ _ _ (Kd.C_below HXi.out.1 bel) HXi.out.2 (Kd.C_below HXk.out.1 bel) HXk.out.2).mono ?_); rintro e w10 ⟨rfl, b10⟩; obtain ⟨hc10, hf10⟩ := bcell b10; have hz10 := below_size b10; (try simp at hz10); have zz10_0 : pa < w10.heap.size := (by omega); have zz10_1 : pb < w10.heap.size := (by omega); have zz10_2 : pi < w10.heap.size := (by omega); have zz10_3 : pk < w10.heap.size := (by omega); have zz10_4 : pz < w10.heap.size := (by omega); have zz10_5 : p0 < w10.heap.size := (by omega)) | (go_at_call 30; (with_reducible refine (HV1.out _ _ _ (HT.out.below bel) (Kd.C_below HXa.out.1 bel) HXa.out.2).mono ?_); rintro e w11 ⟨v11, rfl, hv11, b11⟩; obtain ⟨A11, c11, rfl⟩ := Kd.R_slice hv11; have HC11 := Lib.hid (R_C hv11); clear hv11; obtain ⟨hc11, hf11⟩ := bcell b11; have hz11 := below_size b11; (try simp at hz11); have zz11_0 : pa < w11.heap.size := (by omega); have zz11_1 : pb < w11.heap.size := (by omega); have zz11_2 : pi < w11.heap.size := (by omega); have zz11_3 : pk < w11.heap.size := (by omega); have zz11_4 : pz < w11.heap.size := (by omega); have zz11_5 : p0 < w11.heap.size := (by omega)) | (go_at_call 30; (with_reducible refine (HV2.out _ _ _ (HT.out.below bel) (Kd.C_below HXb.out.1 bel) HXb.out.2).mono ?_); rintro e w12 ⟨v12, rfl, hv12, b12⟩; obtain ⟨A12, c12, rfl⟩ := Kd.R_slice hv12; have HC12 := Lib.hid (R_C hv12); clear hv12; obtain ⟨hc12, hf12⟩ := bcell b12; have hz12 := below_size b12; (try simp at hz12); have zz12_0 : pa < w12.heap.size := (by omega); have zz12_1 : pb < w12.heap.size := (by omega); have zz12_2 : pi < w12.heap.size := (by omega); have zz12_3 : pk < w12.heap.size := (by omega); have zz12_4 : pz < w12.heap.size := (by omega); have zz12_5 : p0 < w12.heap.size := (by omega); have zz12_6 : w11.heap.size < w12.heap.size := (by omega)) | (go_at_call 35; (with_reducible refine (HO.out _ _ _ _ _ (Kd.C_below HC11.out.1 bel) HC11.out.2 (Kd.C_below HC12.out.1 bel) HC12.out.2).mono ?_); rintro e w13 ⟨rfl, b13⟩; obtain ⟨hc13, hf13⟩ := bcell b13; have hz13 := below_size b13; (try simp at hz13); have zz13_0 : pa < w13.heap.size := (by omega); have zz13_1 : pb < w13.heap.size := (by omega); have zz13_2 : pi < w13.heap.size := (by omega); have zz13_3 : pk < w13.heap.size := (by omega); have zz13_4 : pz < w13.heap.size := (by omega); have zz13_5 : p0 < w13.heap.size := (by omega); have zz13_6 : w11.heap.size < w13.heap.size := (by omega); have zz13_7 : w12.heap.size < w13.heap.size := (by omega)) | (go_at_call 11; (with_reducible refine (HSa.out _ (HT.out.below bel)).mono ?_); rintro e w14 ⟨rfl, b14⟩; obtain ⟨hc14, hf14⟩ := bcell b14; have hz14 := below_size b14; (try simp at hz14); have zz14_0 : pa < w14.heap.size := (by omega); have zz14_1 : pb < w14.heap.size := (by omega); have zz14_2 : pi < w14.heap.size := (by omega); have zz14_3 : pk < w14.heap.size := (by omega); have zz14_4 : pz < w14.heap.size := (by omega); have zz14_5 : p0 < w14.heap.size := (by omega); have zz14_6 : w11.heap.size < w14.heap.size := (by omega); have zz14_7 : w12.heap.size < w14.heap.size := (by omega)))
      all_goals
        go_ret
        exact ⟨by simp [*], bel⟩
set_option maxHeartbeats 16000000 in
theorem ord_FFz {a0 f hi1 lo1 hi2 lo2 H1 L1 H2 L2 ex1 ex2 clb exb cc vv xe1 xe2 : Int} {ng1 ng2 ni1 ni2 nx1 nx2 : Bool} {l1 l2 li1 li2 lx1 lx2 : List Int} (w : World)
    (hT : Tab w)
    (HWh : Hid (∀ w', Calls Tryd.prog 21 #[.int .u8 a0] w' fun e w'' => e = .returned (.int .i64 f) ∧ Below w'.heap.size w' w''))
    (HC1 : Hid (∀ w', Calls Tryd.prog 22 #[.int .i64 f, .agg #[.int .u64 hi1, .int .u64 lo1]] w' fun e w'' => e = .returned (.agg #[.int .u64 H1, .int .u64 L1]) ∧ Below w'.heap.size w' w''))
    (HD1 : Hid (∀ w', Calls Tryd.prog 15 #[.int .i64 f, .agg #[.int .u64 H1, .int .u64 L1]] w' fun e w'' => ∃ v3 : Value, e = .returned (.tuple #[.agg #[.int .i64 f, .int .i64 1, .bool ng1, v3, .int .i64 ex1], .int .i64 0]) ∧ Kd.R (Kd.int .u32) 77 w'' w'.heap.size (fun _ => True) v3 l1 ∧ Below w'.heap.size w' w''))
    (HI1 : Hid (∀ A c w', Kd.C (Kd.int .u32) w' A l1.length l1 → l1.length ≤ c → Calls Tryd.prog 23 #[dV f 1 ng1 A l1.length c ex1] w' fun e w'' => ∃ v3 : Value, e = .returned (.tuple #[.agg #[.bool ni1, v3], .int .i64 0]) ∧ Kd.R (Kd.int .u32) 77 w'' w'.heap.size (fun _ => True) v3 li1 ∧ Below w'.heap.size w' w''))
    (HC2 : Hid (∀ w', Calls Tryd.prog 22 #[.int .i64 f, .agg #[.int .u64 hi2, .int .u64 lo2]] w' fun e w'' => e = .returned (.agg #[.int .u64 H2, .int .u64 L2]) ∧ Below w'.heap.size w' w''))
    (HD2 : Hid (∀ w', Calls Tryd.prog 15 #[.int .i64 f, .agg #[.int .u64 H2, .int .u64 L2]] w' fun e w'' => ∃ v3 : Value, e = .returned (.tuple #[.agg #[.int .i64 f, .int .i64 1, .bool ng2, v3, .int .i64 ex2], .int .i64 0]) ∧ Kd.R (Kd.int .u32) 77 w'' w'.heap.size (fun _ => True) v3 l2 ∧ Below w'.heap.size w' w''))
    (HI2 : Hid (∀ A c w', Kd.C (Kd.int .u32) w' A l2.length l2 → l2.length ≤ c → Calls Tryd.prog 23 #[dV f 1 ng2 A l2.length c ex2] w' fun e w'' => ∃ v3 : Value, e = .returned (.tuple #[.agg #[.bool ni2, v3], .int .i64 0]) ∧ Kd.R (Kd.int .u32) 77 w'' w'.heap.size (fun _ => True) v3 li2 ∧ Below w'.heap.size w' w''))
    (HSa : Hid (∀ w', Tab w' → Calls Tryd.prog 11 #[] w' fun e w'' => e = .returned (.bool true) ∧ Below w'.heap.size w' w''))
    (HAt : Hid (∀ A c w', Kd.C (Kd.int .u32) w' A li1.length li1 → li1.length ≤ c → Calls Tryd.prog 33 #[.int .i64 f, .agg #[.bool ni1, .slice A li1.length c]] w' fun e w'' => ∃ v3 : Value, e = .returned (.tuple #[.agg #[.int .i64 f, .int .i64 clb, .bool false, v3, .int .i64 exb], .int .i64 0]) ∧ Kd.R (Kd.int .u32) 77 w'' w'.heap.size (fun _ => True) v3 [] ∧ Below w'.heap.size w' w''))
    (HSm : Hid (∀ A c A' c' w', Kd.C (Kd.int .u32) w' A 0 [] → 0 ≤ c → Kd.C (Kd.int .u32) w' A' l1.length l1 → l1.length ≤ c' → Calls Tryd.prog 19 #[.agg #[.int .i64 f, .int .i64 clb, .bool false, .slice A 0 c, .int .i64 exb], .agg #[.int .i64 f, .int .i64 1, .bool ng1, .slice A' l1.length c', .int .i64 ex1]] w' fun e w'' => e = .returned (.bool false) ∧ Below w'.heap.size w' w''))
    (HSz : Hid (∀ A c w', Kd.C (Kd.int .u32) w' A l1.length l1 → l1.length ≤ c → Calls Tryd.prog 19 #[.agg #[.int .i64 f, .int .i64 1, .bool ng1, .slice A l1.length c, .int .i64 ex1], .agg #[.int .i64 f, .int .i64 1, .bool true, .slice none 0 0, .int .i64 ex1]] w' fun e w'' => e = .returned (.bool true) ∧ Below w'.heap.size w' w''))
    (HOI : Hid (∀ A c A' c' w', Kd.C (Kd.int .u32) w' A li1.length li1 → li1.length ≤ c → Kd.C (Kd.int .u32) w' A' li2.length li2 → li2.length ≤ c' → Calls Tryd.prog 34 #[.agg #[.bool ni1, .slice A li1.length c], .agg #[.bool ni2, .slice A' li2.length c']] w' fun e w'' => e = .returned (.int .i64 cc) ∧ Below w'.heap.size w' w''))
    (HV1 : Hid (∀ A c w', Tab w' → Kd.C (Kd.int .u32) w' A l1.length l1 → l1.length ≤ c → Calls Tryd.prog 30 #[dV f 1 ng1 A l1.length c ex1] w' fun e w'' => ∃ v3 : Value, e = .returned (.tuple #[.agg #[.bool nx1, v3, .int .i64 xe1], .int .i64 0]) ∧ Kd.R (Kd.int .u32) 77 w'' w'.heap.size (fun _ => True) v3 lx1 ∧ Below w'.heap.size w' w''))
    (HV2 : Hid (∀ A c w', Tab w' → Kd.C (Kd.int .u32) w' A l2.length l2 → l2.length ≤ c → Calls Tryd.prog 30 #[dV f 1 ng2 A l2.length c ex2] w' fun e w'' => ∃ v3 : Value, e = .returned (.tuple #[.agg #[.bool nx2, v3, .int .i64 xe2], .int .i64 0]) ∧ Kd.R (Kd.int .u32) 77 w'' w'.heap.size (fun _ => True) v3 lx2 ∧ Below w'.heap.size w' w''))
    (HO : Hid (∀ A c A' c' w', Kd.C (Kd.int .u32) w' A lx1.length lx1 → lx1.length ≤ c → Kd.C (Kd.int .u32) w' A' lx2.length lx2 → lx2.length ≤ c' → Calls Tryd.prog 35 #[.agg #[.bool nx1, .slice A lx1.length c, .int .i64 xe1], .agg #[.bool nx2, .slice A' lx2.length c', .int .i64 xe2]] w' fun e w'' => e = .returned (.int .i64 vv) ∧ Below w'.heap.size w' w''))
    (t1 : decide (cc > 0) = decide (vv > 0)) (t2 : decide (cc < 0) = decide (vv < 0)) :
    Calls Tryd.prog 8 #[.int .u8 a0, .agg #[.int .u64 hi1, .int .u64 lo1], .agg #[.int .u64 hi2, .int .u64 lo2]] w fun e w' => e = .returned (.bool true) ∧ Below w.heap.size w w' := by
  have HT := Lib.hid hT
  clear hT
  go_enter Tryd.func8, Tryd.ntmps8
  go_upto_region 5 with (first | fail | (go_at_call 21; (with_reducible refine (HWh.out _).mono ?_); rintro e w1 ⟨rfl, b1⟩; obtain ⟨hc1, hf1⟩ := bcell b1; have hz1 := below_size b1; (try simp at hz1); have zz1_0 : w.heap.size < w1.heap.size := (by omega); have zz1_1 : w.heap.size + 1 < w1.heap.size := (by omega)) | (go_at_call 22; (with_reducible refine (HC1.out _).mono ?_); rintro e w2 ⟨rfl, b2⟩; obtain ⟨hc2, hf2⟩ := bcell b2; have hz2 := below_size b2; (try simp at hz2); have zz2_0 : w.heap.size < w2.heap.size := (by omega); have zz2_1 : w.heap.size + 1 < w2.heap.size := (by omega)) | (go_at_call 15; (with_reducible refine (HD1.out _).mono ?_); rintro e w3 ⟨v3, rfl, hv3, b3⟩; obtain ⟨A3, c3, rfl⟩ := Kd.R_slice hv3; have HC3 := Lib.hid (R_C hv3); clear hv3; obtain ⟨hc3, hf3⟩ := bcell b3; have hz3 := below_size b3; (try simp at hz3); have zz3_0 : w.heap.size < w3.heap.size := (by omega); have zz3_1 : w.heap.size + 1 < w3.heap.size := (by omega)) | (go_at_call 22; (with_reducible refine (HC2.out _).mono ?_); rintro e w4 ⟨rfl, b4⟩; obtain ⟨hc4, hf4⟩ := bcell b4; have hz4 := below_size b4; (try simp at hz4); have zz4_0 : w.heap.size < w4.heap.size := (by omega); have zz4_1 : w.heap.size + 1 < w4.heap.size := (by omega); have zz4_2 : w3.heap.size < w4.heap.size := (by omega)) | (go_at_call 15; (with_reducible refine (HD2.out _).mono ?_); rintro e w5 ⟨v5, rfl, hv5, b5⟩; obtain ⟨A5, c5, rfl⟩ := Kd.R_slice hv5; have HC5 := Lib.hid (R_C hv5); clear hv5; obtain ⟨hc5, hf5⟩ := bcell b5; have hz5 := below_size b5; (try simp at hz5); have zz5_0 : w.heap.size < w5.heap.size := (by omega); have zz5_1 : w.heap.size + 1 < w5.heap.size := (by omega); have zz5_2 : w3.heap.size < w5.heap.size := (by omega)) | (go_at_call 23; (with_reducible refine (HI1.out _ _ _ (Kd.C_below HC3.out.1 bel) HC3.out.2).mono ?_); rintro e w6 ⟨v6, rfl, hv6, b6⟩; obtain ⟨A6, c6, rfl⟩ := Kd.R_slice hv6; have HC6 := Lib.hid (R_C hv6); clear hv6; obtain ⟨hc6, hf6⟩ := bcell b6; have hz6 := below_size b6; (try simp at hz6); have zz6_0 : w.heap.size < w6.heap.size := (by omega); have zz6_1 : w.heap.size + 1 < w6.heap.size := (by omega); have zz6_2 : w3.heap.size < w6.heap.size := (by omega); have zz6_3 : w5.heap.size < w6.heap.size := (by omega)))
  go_cut [7, 8, 10, 12, 13, 14, 15] (fun v7 v8 v10 v12 v13 v14 v15 wx => ∃ (pa pb pi pk : Nat) (Aa : Option Addr) (ca : Nat) (Ab : Option Addr) (cb : Nat) (Ai : Option Addr) (ci : Nat) (Ak : Option Addr) (ck : Nat), v7 = .int .i64 f ∧ v8 = .pointer (some ⟨pa, 0, none⟩) ∧ v10 = .pointer (some ⟨pb, 0, none⟩) ∧ v12 = .pointer (some ⟨pi, 0, none⟩) ∧ v13 = .int .i64 0 ∧ v14 = .pointer (some ⟨pk, 0, none⟩) ∧ v15 = .int .i64 0 ∧ BlkIs wx pa 25 (· = #[.int .i64 f, .int .i64 1, .bool ng1, .slice Aa l1.length ca, .int .i64 ex1]) ∧ BlkIs wx pb 25 (· = #[.int .i64 f, .int .i64 1, .bool ng2, .slice Ab l2.length cb, .int .i64 ex2]) ∧ BlkIs wx pi 48 (· = #[.bool ni1, .slice Ai li1.length ci]) ∧ BlkIs wx pk 48 (· = #[.bool ni2, .slice Ak li2.length ck]) ∧ Hid (Kd.C (Kd.int .u32) wx Aa l1.length l1 ∧ l1.length ≤ ca) ∧ Hid (Kd.C (Kd.int .u32) wx Ab l2.length l2 ∧ l2.length ≤ cb) ∧ Hid (Kd.C (Kd.int .u32) wx Ai li1.length li1 ∧ li1.length ≤ ci) ∧ Hid (Kd.C (Kd.int .u32) wx Ak li2.length li2 ∧ li2.length ≤ ck) ∧ Below w.heap.size w wx)
  case first =>
    go_wp2_with (first | fail | (go_at_call 23; (with_reducible refine (HI2.out _ _ _ (Kd.C_below HC5.out.1 bel) HC5.out.2).mono ?_); rintro e w7 ⟨v7, rfl, hv7, b7⟩; obtain ⟨A7, c7, rfl⟩ := Kd.R_slice hv7; have HC7 := Lib.hid (R_C hv7); clear hv7; obtain ⟨hc7, hf7⟩ := bcell b7; have hz7 := below_size b7; (try simp at hz7); have zz7_0 : w.heap.size < w7.heap.size := (by omega); have zz7_1 : w.heap.size + 1 < w7.heap.size := (by omega); have zz7_2 : w3.heap.size < w7.heap.size := (by omega); have zz7_3 : w5.heap.size < w7.heap.size := (by omega); have zz7_4 : w6.heap.size < w7.heap.size := (by omega)))
    go_meet
    exact ⟨_, _, _, _, _, _, _, _, _, _, _, _, rfl, rfl, rfl, rfl, rfl, rfl, rfl, blk0, blk0, blk0, blk0, Lib.hid ⟨Kd.C_below HC3.out.1 bel, HC3.out.2⟩, Lib.hid ⟨Kd.C_below HC5.out.1 bel, HC5.out.2⟩, Lib.hid ⟨Kd.C_below HC6.out.1 bel, HC6.out.2⟩, Lib.hid ⟨Kd.C_below HC7.out.1 bel, HC7.out.2⟩, bel⟩
  case rest =>
    clear HWh HC1 HC2 HD1 HD2 HI1 HI2
    obtain ⟨pa, pb, pi, pk, Aa, ca, Ab, cb, Ai, ci, Ak, ck, rfl, rfl, rfl, rfl, rfl, rfl, rfl, HBa, HBb, HBi, HBk, HXa, HXb, HXi, HXk, hbw⟩ := hcut
    obtain ⟨csa, hbka, rfl⟩ := HBa
    have a0 : wc.cell? ⟨pa, 0, none⟩ = some (.int .i64 f) := by simpa using blk_cell hbka 0
    have a1 : wc.cell? ⟨pa, 1, none⟩ = some (.int .i64 1) := by simpa using blk_cell hbka 1
    have a2 : wc.cell? ⟨pa, 2, none⟩ = some (.bool ng1) := by simpa using blk_cell hbka 2
    have a3 : wc.cell? ⟨pa, 3, none⟩ = some (.slice Aa l1.length ca) := by simpa using blk_cell hbka 3
    have a4 : wc.cell? ⟨pa, 4, none⟩ = some (.int .i64 ex1) := by simpa using blk_cell hbka 4
    have az : pa < wc.heap.size := blk_lt hbka
    have HBah := Lib.hid hbka
    clear hbka
    obtain ⟨csb, hbkb, rfl⟩ := HBb
    have b0 : wc.cell? ⟨pb, 0, none⟩ = some (.int .i64 f) := by simpa using blk_cell hbkb 0
    have b1 : wc.cell? ⟨pb, 1, none⟩ = some (.int .i64 1) := by simpa using blk_cell hbkb 1
    have b2 : wc.cell? ⟨pb, 2, none⟩ = some (.bool ng2) := by simpa using blk_cell hbkb 2
    have b3 : wc.cell? ⟨pb, 3, none⟩ = some (.slice Ab l2.length cb) := by simpa using blk_cell hbkb 3
    have b4 : wc.cell? ⟨pb, 4, none⟩ = some (.int .i64 ex2) := by simpa using blk_cell hbkb 4
    have bz : pb < wc.heap.size := blk_lt hbkb
    have HBbh := Lib.hid hbkb
    clear hbkb
    obtain ⟨csi, hbki, rfl⟩ := HBi
    have i0 : wc.cell? ⟨pi, 0, none⟩ = some (.bool ni1) := by simpa using blk_cell hbki 0
    have i1 : wc.cell? ⟨pi, 1, none⟩ = some (.slice Ai li1.length ci) := by simpa using blk_cell hbki 1
    have iz : pi < wc.heap.size := blk_lt hbki
    have HBih := Lib.hid hbki
    clear hbki
    obtain ⟨csk, hbkk, rfl⟩ := HBk
    have k0 : wc.cell? ⟨pk, 0, none⟩ = some (.bool ni2) := by simpa using blk_cell hbkk 0
    have k1 : wc.cell? ⟨pk, 1, none⟩ = some (.slice Ak li2.length ck) := by simpa using blk_cell hbkk 1
    have kz : pk < wc.heap.size := blk_lt hbkk
    have HBkh := Lib.hid hbkk
    clear hbkk
    go_upto_region 9 with (first | fail | (go_at_call 33; (with_reducible refine (HAt.out _ _ _ (Kd.C_below HXi.out.1 bel) HXi.out.2).mono ?_); rintro e w8 ⟨v8, rfl, hv8, b8⟩; obtain ⟨A8, c8, rfl⟩ := Kd.R_slice hv8; have HC8 := Lib.hid (R_C hv8); clear hv8; obtain ⟨hc8, hf8⟩ := bcell b8; have hz8 := below_size b8; (try simp at hz8); have zz8_0 : pa < w8.heap.size := (by omega); have zz8_1 : pb < w8.heap.size := (by omega); have zz8_2 : pi < w8.heap.size := (by omega); have zz8_3 : pk < w8.heap.size := (by omega)))
    go_cut [8, 10, 12, 14, 16, 17, 18] (fun v8 v10 v12 v14 v16 v17 v18 wx => ∃ (pz p0 : Nat) (Az : Option Addr) (cz : Nat), v8 = .pointer (some ⟨pa, 0, none⟩) ∧ v10 = .pointer (some ⟨pb, 0, none⟩) ∧ v12 = .pointer (some ⟨pi, 0, none⟩) ∧ v14 = .pointer (some ⟨pk, 0, none⟩) ∧ v16 = .pointer (some ⟨pz, 0, none⟩) ∧ v17 = .int .i64 0 ∧ v18 = .pointer (some ⟨p0, 0, none⟩) ∧ BlkIs wx pa 25 (· = #[.int .i64 f, .int .i64 1, .bool ng1, .slice Aa l1.length ca, .int .i64 ex1]) ∧ BlkIs wx pb 25 (· = #[.int .i64 f, .int .i64 1, .bool ng2, .slice Ab l2.length cb, .int .i64 ex2]) ∧ BlkIs wx pi 48 (· = #[.bool ni1, .slice Ai li1.length ci]) ∧ BlkIs wx pk 48 (· = #[.bool ni2, .slice Ak li2.length ck]) ∧ BlkIs wx pz 25 (· = #[.int .i64 f, .int .i64 clb, .bool false, .slice Az 0 cz, .int .i64 exb]) ∧ BlkIs wx p0 25 (· = #[.int .i64 f, .int .i64 1, .bool true, .slice none 0 0, .int .i64 ex1]) ∧ Hid (Kd.C (Kd.int .u32) wx Aa l1.length l1 ∧ l1.length ≤ ca) ∧ Hid (Kd.C (Kd.int .u32) wx Ab l2.length l2 ∧ l2.length ≤ cb) ∧ Hid (Kd.C (Kd.int .u32) wx Ai li1.length li1 ∧ li1.length ≤ ci) ∧ Hid (Kd.C (Kd.int .u32) wx Ak li2.length li2 ∧ li2.length ≤ ck) ∧ Hid (Kd.C (Kd.int .u32) wx Az 0 [] ∧ 0 ≤ cz) ∧ Below w.heap.size w wx)
    case first =>
      go_wp2_with fail
      go_meet
      have hbka := HBah.out
      have hbkb := HBbh.out
      have hbki := HBih.out
      have hbkk := HBkh.out
      exact ⟨_, _, _, _, rfl, rfl, rfl, rfl, rfl, rfl, rfl, blk1, blk1, blk1, blk1, blk0, blk0, Lib.hid ⟨Kd.C_below HXa.out.1 bel, HXa.out.2⟩, Lib.hid ⟨Kd.C_below HXb.out.1 bel, HXb.out.2⟩, Lib.hid ⟨Kd.C_below HXi.out.1 bel, HXi.out.2⟩, Lib.hid ⟨Kd.C_below HXk.out.1 bel, HXk.out.2⟩, Lib.hid ⟨Kd.C_below HC8.out.1 bel, HC8.out.2⟩, bel⟩
    case rest =>
      clear HAt HBah HBbh HBih HBkh HXa HXb HXi HXk hbw a0 a1 a2 a3 a4 az b0 b1 b2 b3 b4 bz i0 i1 iz k0 k1 kz
      obtain ⟨pz, p0, Az, cz, rfl, rfl, rfl, rfl, rfl, rfl, rfl, HBa, HBb, HBi, HBk, HBz, HBo, HXa, HXb, HXi, HXk, HXz, hbw⟩ := hcut
      obtain ⟨csa, hbka, rfl⟩ := HBa
      have a0 : wc.cell? ⟨pa, 0, none⟩ = some (.int .i64 f) := by simpa using blk_cell hbka 0
      have a1 : wc.cell? ⟨pa, 1, none⟩ = some (.int .i64 1) := by simpa using blk_cell hbka 1
      have a2 : wc.cell? ⟨pa, 2, none⟩ = some (.bool ng1) := by simpa using blk_cell hbka 2
      have a3 : wc.cell? ⟨pa, 3, none⟩ = some (.slice Aa l1.length ca) := by simpa using blk_cell hbka 3
      have a4 : wc.cell? ⟨pa, 4, none⟩ = some (.int .i64 ex1) := by simpa using blk_cell hbka 4
      have az : pa < wc.heap.size := blk_lt hbka
      have HBah := Lib.hid hbka
      clear hbka
      obtain ⟨csb, hbkb, rfl⟩ := HBb
      have b0 : wc.cell? ⟨pb, 0, none⟩ = some (.int .i64 f) := by simpa using blk_cell hbkb 0
      have b1 : wc.cell? ⟨pb, 1, none⟩ = some (.int .i64 1) := by simpa using blk_cell hbkb 1
      have b2 : wc.cell? ⟨pb, 2, none⟩ = some (.bool ng2) := by simpa using blk_cell hbkb 2
      have b3 : wc.cell? ⟨pb, 3, none⟩ = some (.slice Ab l2.length cb) := by simpa using blk_cell hbkb 3
      have b4 : wc.cell? ⟨pb, 4, none⟩ = some (.int .i64 ex2) := by simpa using blk_cell hbkb 4
      have bz : pb < wc.heap.size := blk_lt hbkb
      have HBbh := Lib.hid hbkb
      clear hbkb
      obtain ⟨csi, hbki, rfl⟩ := HBi
      have i0 : wc.cell? ⟨pi, 0, none⟩ = some (.bool ni1) := by simpa using blk_cell hbki 0
      have i1 : wc.cell? ⟨pi, 1, none⟩ = some (.slice Ai li1.length ci) := by simpa using blk_cell hbki 1
      have iz : pi < wc.heap.size := blk_lt hbki
      have HBih := Lib.hid hbki
      clear hbki
      obtain ⟨csk, hbkk, rfl⟩ := HBk
      have k0 : wc.cell? ⟨pk, 0, none⟩ = some (.bool ni2) := by simpa using blk_cell hbkk 0
      have k1 : wc.cell? ⟨pk, 1, none⟩ = some (.slice Ak li2.length ck) := by simpa using blk_cell hbkk 1
      have kz : pk < wc.heap.size := blk_lt hbkk
      have HBkh := Lib.hid hbkk
      clear hbkk
      obtain ⟨csz, hbkz, rfl⟩ := HBz
      have z0 : wc.cell? ⟨pz, 0, none⟩ = some (.int .i64 f) := by simpa using blk_cell hbkz 0
      have z1 : wc.cell? ⟨pz, 1, none⟩ = some (.int .i64 clb) := by simpa using blk_cell hbkz 1
      have z2 : wc.cell? ⟨pz, 2, none⟩ = some (.bool false) := by simpa using blk_cell hbkz 2
      have z3 : wc.cell? ⟨pz, 3, none⟩ = some (.slice Az 0 cz) := by simpa using blk_cell hbkz 3
      have z4 : wc.cell? ⟨pz, 4, none⟩ = some (.int .i64 exb) := by simpa using blk_cell hbkz 4
      have zz : pz < wc.heap.size := blk_lt hbkz
      have HBzh := Lib.hid hbkz
      clear hbkz
      obtain ⟨cso, hbko, rfl⟩ := HBo
      have o0 : wc.cell? ⟨p0, 0, none⟩ = some (.int .i64 f) := by simpa using blk_cell hbko 0
      have o1 : wc.cell? ⟨p0, 1, none⟩ = some (.int .i64 1) := by simpa using blk_cell hbko 1
      have o2 : wc.cell? ⟨p0, 2, none⟩ = some (.bool true) := by simpa using blk_cell hbko 2
      have o3 : wc.cell? ⟨p0, 3, none⟩ = some (.slice none 0 0) := by simpa using blk_cell hbko 3
      have o4 : wc.cell? ⟨p0, 4, none⟩ = some (.int .i64 ex1) := by simpa using blk_cell hbko 4
      have oz : p0 < wc.heap.size := blk_lt hbko
      have HBoh := Lib.hid hbko
      clear hbko
      go_wp2_with (first | fail | (go_at_call 19; (with_reducible refine (HSm.out _ _ _ _ _ (Kd.C_below HXz.out.1 bel) HXz.out.2 (Kd.C_below HXa.out.1 bel) HXa.out.2).mono ?_); rintro e w9 ⟨rfl, b9⟩; obtain ⟨hc9, hf9⟩ := bcell b9; have hz9 := below_size b9; (try simp at hz9); have zz9_0 : pa < w9.heap.size := (by omega); have zz9_1 : pb < w9.heap.size := (by omega); have zz9_2 : pi < w9.heap.size := (by omega); have zz9_3 : pk < w9.heap.size := (by omega); have zz9_4 : pz < w9.heap.size := (by omega); have zz9_5 : p0 < w9.heap.size := (by omega)) | (go_at_call 19; (with_reducible refine (HSz.out _ _ _ (Kd.C_below HXa.out.1 bel) HXa.out.2).mono ?_); rintro e w10 ⟨rfl, b10⟩; obtain ⟨hc10, hf10⟩ := bcell b10; have hz10 := below_size b10; (try simp at hz10); have zz10_0 : pa < w10.heap.size := (by omega); have zz10_1 : pb < w10.heap.size := (by omega); have zz10_2 : pi < w10.heap.size := (by omega); have zz10_3 : pk < w10.heap.size := (by omega); have zz10_4 : pz < w10.heap.size := (by omega); have zz10_5 : p0 < w10.heap.size := (by omega)) | (go_at_call 34; (with_reducible refine (HOI.out _ _ _ _ _ (Kd.C_below HXi.out.1 bel) HXi.out.2 (Kd.C_below HXk.out.1 bel) HXk.out.2).mono ?_); rintro e w11 ⟨rfl, b11⟩; obtain ⟨hc11, hf11⟩ := bcell b11; have hz11 := below_size b11; (try simp at hz11); have zz11_0 : pa < w11.heap.size := (by omega); have zz11_1 : pb < w11.heap.size := (by omega); have zz11_2 : pi < w11.heap.size := (by omega); have zz11_3 : pk < w11.heap.size := (by omega); have zz11_4 : pz < w11.heap.size := (by omega); have zz11_5 : p0 < w11.heap.size := (by omega)) | (go_at_call 30; (with_reducible refine (HV1.out _ _ _ (HT.out.below bel) (Kd.C_below HXa.out.1 bel) HXa.out.2).mono ?_); rintro e w12 ⟨v12, rfl, hv12, b12⟩; obtain ⟨A12, c12, rfl⟩ := Kd.R_slice hv12; have HC12 := Lib.hid (R_C hv12); clear hv12; obtain ⟨hc12, hf12⟩ := bcell b12; have hz12 := below_size b12; (try simp at hz12); have zz12_0 : pa < w12.heap.size := (by omega); have zz12_1 : pb < w12.heap.size := (by omega); have zz12_2 : pi < w12.heap.size := (by omega); have zz12_3 : pk < w12.heap.size := (by omega); have zz12_4 : pz < w12.heap.size := (by omega); have zz12_5 : p0 < w12.heap.size := (by omega)) | (go_at_call 30; (with_reducible refine (HV2.out _ _ _ (HT.out.below bel) (Kd.C_below HXb.out.1 bel) HXb.out.2).mono ?_); rintro e w13 ⟨v13, rfl, hv13, b13⟩; obtain ⟨A13, c13, rfl⟩ := Kd.R_slice hv13; have HC13 := Lib.hid (R_C hv13); clear hv13; obtain ⟨hc13, hf13⟩ := bcell b13; have hz13 := below_size b13; (try simp at hz13); have zz13_0 : pa < w13.heap.size := (by omega); have zz13_1 : pb < w13.heap.size := (by omega); have zz13_2 : pi < w13.heap.size := (by omega); have zz13_3 : pk < w13.heap.size := (by omega); have zz13_4 : pz < w13.heap.size := (by omega); have zz13_5 : p0 < w13.heap.size := (by omega); have zz13_6 : w12.heap.size < w13.heap.size := (by omega)) | (go_at_call 35; (with_reducible refine (HO.out _ _ _ _ _ (Kd.C_below HC12.out.1 bel) HC12.out.2 (Kd.C_below HC13.out.1 bel) HC13.out.2).mono ?_); rintro e w14 ⟨rfl, b14⟩; obtain ⟨hc14, hf14⟩ := bcell b14; have hz14 := below_size b14; (try simp at hz14); have zz14_0 : pa < w14.heap.size := (by omega); have zz14_1 : pb < w14.heap.size := (by omega); have zz14_2 : pi < w14.heap.size := (by omega); have zz14_3 : pk < w14.heap.size := (by omega); have zz14_4 : pz < w14.heap.size := (by omega); have zz14_5 : p0 < w14.heap.size := (by omega); have zz14_6 : w12.heap.size < w14.heap.size := (by omega); have zz14_7 : w13.heap.size < w14.heap.size := (by omega)) | (go_at_call 11; (with_reducible refine (HSa.out _ (HT.out.below bel)).mono ?_); rintro e w15 ⟨rfl, b15⟩; obtain ⟨hc15, hf15⟩ := bcell b15; have hz15 := below_size b15; (try simp at hz15); have zz15_0 : pa < w15.heap.size := (by omega); have zz15_1 : pb < w15.heap.size := (by omega); have zz15_2 : pi < w15.heap.size := (by omega); have zz15_3 : pk < w15.heap.size := (by omega); have zz15_4 : pz < w15.heap.size := (by omega); have zz15_5 : p0 < w15.heap.size := (by omega); have zz15_6 : w12.heap.size < w15.heap.size := (by omega); have zz15_7 : w13.heap.size < w15.heap.size := (by omega)))
      all_goals
        go_ret
        exact ⟨by simp [*], bel⟩
set_option maxHeartbeats 16000000 in
theorem ord_IIs {a0 f hi1 lo1 hi2 lo2 H1 L1 H2 L2 ex1 ex2 clb exb cc xe1 xe2 : Int} {ng1 ng2 ni1 ni2 ngb nx1 nx2 : Bool} {l1 l2 li1 li2 lb lx1 lx2 : List Int} (w : World)
    (hT : Tab w)
    (HWh : Hid (∀ w', Calls Tryd.prog 21 #[.int .u8 a0] w' fun e w'' => e = .returned (.int .i64 f) ∧ Below w'.heap.size w' w''))
    (HC1 : Hid (∀ w', Calls Tryd.prog 22 #[.int .i64 f, .agg #[.int .u64 hi1, .int .u64 lo1]] w' fun e w'' => e = .returned (.agg #[.int .u64 H1, .int .u64 L1]) ∧ Below w'.heap.size w' w''))
    (HD1 : Hid (∀ w', Calls Tryd.prog 15 #[.int .i64 f, .agg #[.int .u64 H1, .int .u64 L1]] w' fun e w'' => ∃ v3 : Value, e = .returned (.tuple #[.agg #[.int .i64 f, .int .i64 2, .bool ng1, v3, .int .i64 ex1], .int .i64 0]) ∧ Kd.R (Kd.int .u32) 77 w'' w'.heap.size (fun _ => True) v3 l1 ∧ Below w'.heap.size w' w''))
    (HI1 : Hid (∀ A c w', Kd.C (Kd.int .u32) w' A l1.length l1 → l1.length ≤ c → Calls Tryd.prog 23 #[dV f 2 ng1 A l1.length c ex1] w' fun e w'' => ∃ v3 : Value, e = .returned (.tuple #[.agg #[.bool ni1, v3], .int .i64 0]) ∧ Kd.R (Kd.int .u32) 77 w'' w'.heap.size (fun _ => True) v3 li1 ∧ Below w'.heap.size w' w''))
    (HC2 : Hid (∀ w', Calls Tryd.prog 22 #[.int .i64 f, .agg #[.int .u64 hi2, .int .u64 lo2]] w' fun e w'' => e = .returned (.agg #[.int .u64 H2, .int .u64 L2]) ∧ Below w'.heap.size w' w''))
    (HD2 : Hid (∀ w', Calls Tryd.prog 15 #[.int .i64 f, .agg #[.int .u64 H2, .int .u64 L2]] w' fun e w'' => ∃ v3 : Value, e = .returned (.tuple #[.agg #[.int .i64 f, .int .i64 2, .bool ng2, v3, .int .i64 ex2], .int .i64 0]) ∧ Kd.R (Kd.int .u32) 77 w'' w'.heap.size (fun _ => True) v3 l2 ∧ Below w'.heap.size w' w''))
    (HI2 : Hid (∀ A c w', Kd.C (Kd.int .u32) w' A l2.length l2 → l2.length ≤ c → Calls Tryd.prog 23 #[dV f 2 ng2 A l2.length c ex2] w' fun e w'' => ∃ v3 : Value, e = .returned (.tuple #[.agg #[.bool ni2, v3], .int .i64 0]) ∧ Kd.R (Kd.int .u32) 77 w'' w'.heap.size (fun _ => True) v3 li2 ∧ Below w'.heap.size w' w''))
    (HSa : Hid (∀ w', Tab w' → Calls Tryd.prog 11 #[] w' fun e w'' => e = .returned (.bool true) ∧ Below w'.heap.size w' w''))
    (HAt : Hid (∀ A c w', Kd.C (Kd.int .u32) w' A li1.length li1 → li1.length ≤ c → Calls Tryd.prog 33 #[.int .i64 f, .agg #[.bool ni1, .slice A li1.length c]] w' fun e w'' => ∃ v3 : Value, e = .returned (.tuple #[.agg #[.int .i64 f, .int .i64 clb, .bool ngb, v3, .int .i64 exb], .int .i64 0]) ∧ Kd.R (Kd.int .u32) 77 w'' w'.heap.size (fun _ => True) v3 lb ∧ Below w'.heap.size w' w''))
    (HSm : Hid (∀ A c A' c' w', Kd.C (Kd.int .u32) w' A lb.length lb → lb.length ≤ c → Kd.C (Kd.int .u32) w' A' l1.length l1 → l1.length ≤ c' → Calls Tryd.prog 19 #[.agg #[.int .i64 f, .int .i64 clb, .bool ngb, .slice A lb.length c, .int .i64 exb], .agg #[.int .i64 f, .int .i64 2, .bool ng1, .slice A' l1.length c', .int .i64 ex1]] w' fun e w'' => e = .returned (.bool true) ∧ Below w'.heap.size w' w''))
    (HOI : Hid (∀ A c A' c' w', Kd.C (Kd.int .u32) w' A li1.length li1 → li1.length ≤ c → Kd.C (Kd.int .u32) w' A' li2.length li2 → li2.length ≤ c' → Calls Tryd.prog 34 #[.agg #[.bool ni1, .slice A li1.length c], .agg #[.bool ni2, .slice A' li2.length c']] w' fun e w'' => e = .returned (.int .i64 cc) ∧ Below w'.heap.size w' w''))
    (HV1 : Hid (∀ A c w', Tab w' → Kd.C (Kd.int .u32) w' A l1.length l1 → l1.length ≤ c → Calls Tryd.prog 30 #[dV f 2 ng1 A l1.length c ex1] w' fun e w'' => ∃ v3 : Value, e = .returned (.tuple #[.agg #[.bool nx1, v3, .int .i64 xe1], .int .i64 5]) ∧ Kd.R (Kd.int .u32) 77 w'' w'.heap.size (fun _ => True) v3 lx1 ∧ Below w'.heap.size w' w''))
    (HV2 : Hid (∀ A c w', Tab w' → Kd.C (Kd.int .u32) w' A l2.length l2 → l2.length ≤ c → Calls Tryd.prog 30 #[dV f 2 ng2 A l2.length c ex2] w' fun e w'' => ∃ v3 : Value, e = .returned (.tuple #[.agg #[.bool nx2, v3, .int .i64 xe2], .int .i64 5]) ∧ Kd.R (Kd.int .u32) 77 w'' w'.heap.size (fun _ => True) v3 lx2 ∧ Below w'.heap.size w' w''))
    (t1 : (cc == 0) = (ng1 == ng2)) :
    Calls Tryd.prog 8 #[.int .u8 a0, .agg #[.int .u64 hi1, .int .u64 lo1], .agg #[.int .u64 hi2, .int .u64 lo2]] w fun e w' => e = .returned (.bool true) ∧ Below w.heap.size w w' := by
  have HT := Lib.hid hT
  clear hT
  go_enter Tryd.func8, Tryd.ntmps8
  go_upto_region 5 with (first | fail | (go_at_call 21; (with_reducible refine (HWh.out _).mono ?_); rintro e w1 ⟨rfl, b1⟩; obtain ⟨hc1, hf1⟩ := bcell b1; have hz1 := below_size b1; (try simp at hz1); have zz1_0 : w.heap.size < w1.heap.size := (by omega); have zz1_1 : w.heap.size + 1 < w1.heap.size := (by omega)) | (go_at_call 22; (with_reducible refine (HC1.out _).mono ?_); rintro e w2 ⟨rfl, b2⟩; obtain ⟨hc2, hf2⟩ := bcell b2; have hz2 := below_size b2; (try simp at hz2); have zz2_0 : w.heap.size < w2.heap.size := (by omega); have zz2_1 : w.heap.size + 1 < w2.heap.size := (by omega)) | (go_at_call 15; (with_reducible refine (HD1.out _).mono ?_); rintro e w3 ⟨v3, rfl, hv3, b3⟩; obtain ⟨A3, c3, rfl⟩ := Kd.R_slice hv3; have HC3 := Lib.hid (R_C hv3); clear hv3; obtain ⟨hc3, hf3⟩ := bcell b3; have hz3 := below_size b3; (try simp at hz3); have zz3_0 : w.heap.size < w3.heap.size := (by omega); have zz3_1 : w.heap.size + 1 < w3.heap.size := (by omega)) | (go_at_call 22; (with_reducible refine (HC2.out _).mono ?_); rintro e w4 ⟨rfl, b4⟩; obtain ⟨hc4, hf4⟩ := bcell b4; have hz4 := below_size b4; (try simp at hz4); have zz4_0 : w.heap.size < w4.heap.size := (by omega); have zz4_1 : w.heap.size + 1 < w4.heap.size := (by omega); have zz4_2 : w3.heap.size < w4.heap.size := (by omega)) | (go_at_call 15; (with_reducible refine (HD2.out _).mono ?_); rintro e w5 ⟨v5, rfl, hv5, b5⟩; obtain ⟨A5, c5, rfl⟩ := Kd.R_slice hv5; have HC5 := Lib.hid (R_C hv5); clear hv5; obtain ⟨hc5, hf5⟩ := bcell b5; have hz5 := below_size b5; (try simp at hz5); have zz5_0 : w.heap.size < w5.heap.size := (by omega); have zz5_1 : w.heap.size + 1 < w5.heap.size := (by omega); have zz5_2 : w3.heap.size < w5.heap.size := (by omega)) | (go_at_call 23; (with_reducible refine (HI1.out _ _ _ (Kd.C_below HC3.out.1 bel) HC3.out.2).mono ?_); rintro e w6 ⟨v6, rfl, hv6, b6⟩; obtain ⟨A6, c6, rfl⟩ := Kd.R_slice hv6; have HC6 := Lib.hid (R_C hv6); clear hv6; obtain ⟨hc6, hf6⟩ := bcell b6; have hz6 := below_size b6; (try simp at hz6); have zz6_0 : w.heap.size < w6.heap.size := (by omega); have zz6_1 : w.heap.size + 1 < w6.heap.size := (by omega); have zz6_2 : w3.heap.size < w6.heap.size := (by omega); have zz6_3 : w5.heap.size < w6.heap.size := (by omega)))
  go_cut [7, 8, 10, 12, 13, 14, 15] (fun v7 v8 v10 v12 v13 v14 v15 wx => ∃ (pa pb pi pk : Nat) (Aa : Option Addr) (ca : Nat) (Ab : Option Addr) (cb : Nat) (Ai : Option Addr) (ci : Nat) (Ak : Option Addr) (ck : Nat), v7 = .int .i64 f ∧ v8 = .pointer (some ⟨pa, 0, none⟩) ∧ v10 = .pointer (some ⟨pb, 0, none⟩) ∧ v12 = .pointer (some ⟨pi, 0, none⟩) ∧ v13 = .int .i64 0 ∧ v14 = .pointer (some ⟨pk, 0, none⟩) ∧ v15 = .int .i64 0 ∧ BlkIs wx pa 25 (· = #[.int .i64 f, .int .i64 2, .bool ng1, .slice Aa l1.length ca, .int .i64 ex1]) ∧ BlkIs wx pb 25 (· = #[.int .i64 f, .int .i64 2, .bool ng2, .slice Ab l2.length cb, .int .i64 ex2]) ∧ BlkIs wx pi 48 (· = #[.bool ni1, .slice Ai li1.length ci]) ∧ BlkIs wx pk 48 (· = #[.bool ni2, .slice Ak li2.length ck]) ∧ Hid (Kd.C (Kd.int .u32) wx Aa l1.length l1 ∧ l1.length ≤ ca) ∧ Hid (Kd.C (Kd.int .u32) wx Ab l2.length l2 ∧ l2.length ≤ cb) ∧ Hid (Kd.C (Kd.int .u32) wx Ai li1.length li1 ∧ li1.length ≤ ci) ∧ Hid (Kd.C (Kd.int .u32) wx Ak li2.length li2 ∧ li2.length ≤ ck) ∧ Below w.heap.size w wx)
  case first =>
    go_wp2_with (first | fail | (go_at_call 23; (with_reducible refine (HI2.out _ _ _ (Kd.C_below HC5.out.1 bel) HC5.out.2).mono ?_); rintro e w7 ⟨v7, rfl, hv7, b7⟩; obtain ⟨A7, c7, rfl⟩ := Kd.R_slice hv7; have HC7 := Lib.hid (R_C hv7); clear hv7; obtain ⟨hc7, hf7⟩ := bcell b7; have hz7 := below_size b7; (try simp at hz7); have zz7_0 : w.heap.size < w7.heap.size := (by omega); have zz7_1 : w.heap.size + 1 < w7.heap.size := (by omega); have zz7_2 : w3.heap.size < w7.heap.size := (by omega); have zz7_3 : w5.heap.size < w7.heap.size := (by omega); have zz7_4 : w6.heap.size < w7.heap.size := (by omega)))
    go_meet
    exact ⟨_, _, _, _, _, _, _, _, _, _, _, _, rfl, rfl, rfl, rfl, rfl, rfl, rfl, blk0, blk0, blk0, blk0, Lib.hid ⟨Kd.C_below HC3.out.1 bel, HC3.out.2⟩, Lib.hid ⟨Kd.C_below HC5.out.1 bel, HC5.out.2⟩, Lib.hid ⟨Kd.C_below HC6.out.1 bel, HC6.out.2⟩, Lib.hid ⟨Kd.C_below HC7.out.1 bel, HC7.out.2⟩, bel⟩
  case rest =>
    clear HWh HC1 HC2 HD1 HD2 HI1 HI2
    obtain ⟨pa, pb, pi, pk, Aa, ca, Ab, cb, Ai, ci, Ak, ck, rfl, rfl, rfl, rfl, rfl, rfl, rfl, HBa, HBb, HBi, HBk, HXa, HXb, HXi, HXk, hbw⟩ := hcut
    obtain ⟨csa, hbka, rfl⟩ := HBa
    have a0 : wc.cell? ⟨pa, 0, none⟩ = some (.int .i64 f) := by simpa using blk_cell hbka 0
    have a1 : wc.cell? ⟨pa, 1, none⟩ = some (.int .i64 2) := by simpa using blk_cell hbka 1
    have a2 : wc.cell? ⟨pa, 2, none⟩ = some (.bool ng1) := by simpa using blk_cell hbka 2
    have a3 : wc.cell? ⟨pa, 3, none⟩ = some (.slice Aa l1.length ca) := by simpa using blk_cell hbka 3
    have a4 : wc.cell? ⟨pa, 4, none⟩ = some (.int .i64 ex1) := by simpa using blk_cell hbka 4
    have az : pa < wc.heap.size := blk_lt hbka
    have HBah := Lib.hid hbka
    clear hbka
    obtain ⟨csb, hbkb, rfl⟩ := HBb
    have b0 : wc.cell? ⟨pb, 0, none⟩ = some (.int .i64 f) := by simpa using blk_cell hbkb 0
    have b1 : wc.cell? ⟨pb, 1, none⟩ = some (.int .i64 2) := by simpa using blk_cell hbkb 1
    have b2 : wc.cell? ⟨pb, 2, none⟩ = some (.bool ng2) := by simpa using blk_cell hbkb 2
    have b3 : wc.cell? ⟨pb, 3, none⟩ = some (.slice Ab l2.length cb) := by simpa using blk_cell hbkb 3
    have b4 : wc.cell? ⟨pb, 4, none⟩ = some (.int .i64 ex2) := by simpa using blk_cell hbkb 4
    have bz : pb < wc.heap.size := blk_lt hbkb
    have HBbh := Lib.hid hbkb
    clear hbkb
    obtain ⟨csi, hbki, rfl⟩ := HBi
    have i0 : wc.cell? ⟨pi, 0, none⟩ = some (.bool ni1) := by simpa using blk_cell hbki 0
    have i1 : wc.cell? ⟨pi, 1, none⟩ = some (.slice Ai li1.length ci) := by simpa using blk_cell hbki 1
    have iz : pi < wc.heap.size := blk_lt hbki
    have HBih := Lib.hid hbki
    clear hbki
    obtain ⟨csk, hbkk, rfl⟩ := HBk
    have k0 : wc.cell? ⟨pk, 0, none⟩ = some (.bool ni2) := by simpa using blk_cell hbkk 0
    have k1 : wc.cell? ⟨pk, 1, none⟩ = some (.slice Ak li2.length ck) := by simpa using blk_cell hbkk 1
    have kz : pk < wc.heap.size := blk_lt hbkk
    have HBkh := Lib.hid hbkk
    clear hbkk
    go_upto_region 9 with (first | fail | (go_at_call 33; (with_reducible refine (HAt.out _ _ _ (Kd.C_below HXi.out.1 bel) HXi.out.2).mono ?_); rintro e w8 ⟨v8, rfl, hv8, b8⟩; obtain ⟨A8, c8, rfl⟩ := Kd.R_slice hv8; have HC8 := Lib.hid (R_C hv8); clear hv8; obtain ⟨hc8, hf8⟩ := bcell b8; have hz8 := below_size b8; (try simp at hz8); have zz8_0 : pa < w8.heap.size := (by omega); have zz8_1 : pb < w8.heap.size := (by omega); have zz8_2 : pi < w8.heap.size := (by omega); have zz8_3 : pk < w8.heap.size := (by omega)))
    go_cut [8, 10, 12, 14, 16, 17, 18] (fun v8 v10 v12 v14 v16 v17 v18 wx => ∃ (pz p0 : Nat) (Az : Option Addr) (cz : Nat), v8 = .pointer (some ⟨pa, 0, none⟩) ∧ v10 = .pointer (some ⟨pb, 0, none⟩) ∧ v12 = .pointer (some ⟨pi, 0, none⟩) ∧ v14 = .pointer (some ⟨pk, 0, none⟩) ∧ v16 = .pointer (some ⟨pz, 0, none⟩) ∧ v17 = .int .i64 0 ∧ v18 = .pointer (some ⟨p0, 0, none⟩) ∧ BlkIs wx pa 25 (· = #[.int .i64 f, .int .i64 2, .bool ng1, .slice Aa l1.length ca, .int .i64 ex1]) ∧ BlkIs wx pb 25 (· = #[.int .i64 f, .int .i64 2, .bool ng2, .slice Ab l2.length cb, .int .i64 ex2]) ∧ BlkIs wx pi 48 (· = #[.bool ni1, .slice Ai li1.length ci]) ∧ BlkIs wx pk 48 (· = #[.bool ni2, .slice Ak li2.length ck]) ∧ BlkIs wx pz 25 (· = #[.int .i64 f, .int .i64 clb, .bool ngb, .slice Az lb.length cz, .int .i64 exb]) ∧ BlkIs wx p0 25 (· = #[.int .i64 f, .int .i64 1, .bool true, .slice none 0 0, .int .i64 ex1]) ∧ Hid (Kd.C (Kd.int .u32) wx Aa l1.length l1 ∧ l1.length ≤ ca) ∧ Hid (Kd.C (Kd.int .u32) wx Ab l2.length l2 ∧ l2.length ≤ cb) ∧ Hid (Kd.C (Kd.int .u32) wx Ai li1.length li1 ∧ li1.length ≤ ci) ∧ Hid (Kd.C (Kd.int .u32) wx Ak li2.length li2 ∧ li2.length ≤ ck) ∧ Hid (Kd.C (Kd.int .u32) wx Az lb.length lb ∧ lb.length ≤ cz) ∧ Below w.heap.size w wx)
    case first =>
      go_wp2_with fail
      go_meet
      have hbka := HBah.out
      have hbkb := HBbh.out
      have hbki := HBih.out
      have hbkk := HBkh.out
      exact ⟨_, _, _, _, rfl, rfl, rfl, rfl, rfl, rfl, rfl, blk1, blk1, blk1, blk1, blk0, blk0, Lib.hid ⟨Kd.C_below HXa.out.1 bel, HXa.out.2⟩, Lib.hid ⟨Kd.C_below HXb.out.1 bel, HXb.out.2⟩, Lib.hid ⟨Kd.C_below HXi.out.1 bel, HXi.out.2⟩, Lib.hid ⟨Kd.C_below HXk.out.1 bel, HXk.out.2⟩, Lib.hid ⟨Kd.C_below HC8.out.1 bel, HC8.out.2⟩, bel⟩
    case rest =>
      clear HAt HBah HBbh HBih HBkh HXa HXb HXi HXk hbw a0 a1 a2 a3 a4 az b0 b1 b2 b3 b4 bz i0 i1 iz k0 k1 kz
      obtain ⟨pz, p0, Az, cz, rfl, rfl, rfl, rfl, rfl, rfl, rfl, HBa, HBb, HBi, HBk, HBz, HBo, HXa, HXb, HXi, HXk, HXz, hbw⟩ := hcut
      obtain ⟨csa, hbka, rfl⟩ := HBa
      have a0 : wc.cell? ⟨pa, 0, none⟩ = some (.int .i64 f) := by simpa using blk_cell hbka 0
      have a1 : wc.cell? ⟨pa, 1, none⟩ = some (.int .i64 2) := by simpa using blk_cell hbka 1
      have a2 : wc.cell? ⟨pa, 2, none⟩ = some (.bool ng1) := by simpa using blk_cell hbka 2
      have a3 : wc.cell? ⟨pa, 3, none⟩ = some (.slice Aa l1.length ca) := by simpa using blk_cell hbka 3
      have a4 : wc.cell? ⟨pa, 4, none⟩ = some (.int .i64 ex1) := by simpa using blk_cell hbka 4
      have az : pa < wc.heap.size := blk_lt hbka
      have HBah := Lib.hid hbka
      clear hbka
      obtain ⟨csb, hbkb, rfl⟩ := HBb
      have b0 : wc.cell? ⟨pb, 0, none⟩ = some (.int .i64 f) := by simpa using blk_cell hbkb 0
      have b1 : wc.cell? ⟨pb, 1, none⟩ = some (.int .i64 2) := by simpa using blk_cell hbkb 1
      have b2 : wc.cell? ⟨pb, 2, none⟩ = some (.bool ng2) := by simpa using blk_cell hbkb 2
      have b3 : wc.cell? ⟨pb, 3, none⟩ = some (.slice Ab l2.length cb) := by simpa using blk_cell hbkb 3
      have b4 : wc.cell? ⟨pb, 4, none⟩ = some (.int .i64 ex2) := by simpa using blk_cell hbkb 4
      have bz : pb < wc.heap.size := blk_lt hbkb
      have HBbh := Lib.hid hbkb
      clear hbkb
      obtain ⟨csi, hbki, rfl⟩ := HBi
      have i0 : wc.cell? ⟨pi, 0, none⟩ = some (.bool ni1) := by simpa using blk_cell hbki 0
      have i1 : wc.cell? ⟨pi, 1, none⟩ = some (.slice Ai li1.length ci) := by simpa using blk_cell hbki 1
      have iz : pi < wc.heap.size := blk_lt hbki
      have HBih := Lib.hid hbki
      clear hbki
      obtain ⟨csk, hbkk, rfl⟩ := HBk
      have k0 : wc.cell? ⟨pk, 0, none⟩ = some (.bool ni2) := by simpa using blk_cell hbkk 0
      have k1 : wc.cell? ⟨pk, 1, none⟩ = some (.slice Ak li2.length ck) := by simpa using blk_cell hbkk 1
      have kz : pk < wc.heap.size := blk_lt hbkk
      have HBkh := Lib.hid hbkk
      clear hbkk
      obtain ⟨csz, hbkz, rfl⟩ := HBz
      have z0 : wc.cell? ⟨pz, 0, none⟩ = some (.int .i64 f) := by simpa using blk_cell hbkz 0
      have z1 : wc.cell? ⟨pz, 1, none⟩ = some (.int .i64 clb) := by simpa using blk_cell hbkz 1
      have z2 : wc.cell? ⟨pz, 2, none⟩ = some (.bool ngb) := by simpa using blk_cell hbkz 2
      have z3 : wc.cell? ⟨pz, 3, none⟩ = some (.slice Az lb.length cz) := by simpa using blk_cell hbkz 3
      have z4 : wc.cell? ⟨pz, 4, none⟩ = some (.int .i64 exb) := by simpa using blk_cell hbkz 4
      have zz : pz < wc.heap.size := blk_lt hbkz
      have HBzh := Lib.hid hbkz
      clear hbkz
      obtain ⟨cso, hbko, rfl⟩ := HBo
      have o0 : wc.cell? ⟨p0, 0, none⟩ = some (.int .i64 f) := by simpa using blk_cell hbko 0
      have o1 : wc.cell? ⟨p0, 1, none⟩ = some (.int .i64 1) := by simpa using blk_cell hbko 1
      have o2 : wc.cell? ⟨p0, 2, none⟩ = some (.bool true) := by simpa using blk_cell hbko 2
      have o3 : wc.cell? ⟨p0, 3, none⟩ = some (.slice none 0 0) := by simpa using blk_cell hbko 3
      have o4 : wc.cell? ⟨p0, 4, none⟩ = some (.int .i64 ex1) := by simpa using blk_cell hbko 4
      have oz : p0 < wc.heap.size := blk_lt hbko
      have HBoh := Lib.hid hbko
      clear hbko
      go_wp2_with (first | fail | (go_at_call 19; (with_reducible refine (HSm.out _ _ _ _ _ (Kd.C_below HXz.out.1 bel) HXz.out.2 (Kd.C_below HXa.out.1 bel) HXa.out.2).mono ?_); rintro e w9 ⟨rfl, b9⟩; obtain ⟨hc9, hf9⟩ := bcell b9; have hz9 := below_size b9; (try simp at hz9); have zz9_0 : pa < w9.heap.size := (by omega); have zz9_1 : pb < w9.heap.size := (by omega); have zz9_2 : pi < w9.heap.size := (by omega); have zz9_3 : pk < w9.heap.size := (by omega); have zz9_4 : pz < w9.heap.size := (by omega); have zz9_5 : p0 < w9.heap.size := (by omega)) | (go_at_call 34; (with_reducible refine (HOI.out _ _ _ _ _ (Kd.C_below HXi.out.1 bel) HXi.out.2 (Kd.C_below HXk.out.1 bel) HXk.out.2).mono ?_); rintro e w10 ⟨rfl, b10⟩; obtain ⟨hc10, hf10⟩ := bcell b10; have hz10 := below_size b10; (try simp at hz10); have zz10_0 : pa < w10.heap.size := (by omega); have zz10_1 : pb < w10.heap.size := (by omega); have zz10_2 : pi < w10.heap.size := (by omega); have zz10_3 : pk < w10.heap.size := (by omega); have zz10_4 : pz < w10.heap.size := (by omega); have zz10_5 : p0 < w10.heap.size := (by omega)) | (go_at_call 30; (with_reducible refine (HV1.out _ _ _ (HT.out.below bel) (Kd.C_below HXa.out.1 bel) HXa.out.2).mono ?_); rintro e w11 ⟨v11, rfl, hv11, b11⟩; obtain ⟨A11, c11, rfl⟩ := Kd.R_slice hv11; have HC11 := Lib.hid (R_C hv11); clear hv11; obtain ⟨hc11, hf11⟩ := bcell b11; have hz11 := below_size b11; (try simp at hz11); have zz11_0 : pa < w11.heap.size := (by omega); have zz11_1 : pb < w11.heap.size := (by omega); have zz11_2 : pi < w11.heap.size := (by omega); have zz11_3 : pk < w11.heap.size := (by omega); have zz11_4 : pz < w11.heap.size := (by omega); have zz11_5 : p0 < w11.heap.size := (by omega)) | (go_at_call 30; (with_reducible refine (HV2.out _ _ _ (HT.out.below bel) (Kd.C_below HXb.out.1 bel) HXb.out.2).mono ?_); rintro e w12 ⟨v12, rfl, hv12, b12⟩; obtain ⟨A12, c12, rfl⟩ := Kd.R_slice hv12; have HC12 := Lib.hid (R_C hv12); clear hv12; obtain ⟨hc12, hf12⟩ := bcell b12; have hz12 := below_size b12; (try simp at hz12); have zz12_0 : pa < w12.heap.size := (by omega); have zz12_1 : pb < w12.heap.size := (by omega); have zz12_2 : pi < w12.heap.size := (by omega); have zz12_3 : pk < w12.heap.size := (by omega); have zz12_4 : pz < w12.heap.size := (by omega); have zz12_5 : p0 < w12.heap.size := (by omega); have zz12_6 : w11.heap.size < w12.heap.size := (by omega)) | (go_at_call 11; (with_reducible refine (HSa.out _ (HT.out.below bel)).mono ?_); rintro e w13 ⟨rfl, b13⟩; obtain ⟨hc13, hf13⟩ := bcell b13; have hz13 := below_size b13; (try simp at hz13); have zz13_0 : pa < w13.heap.size := (by omega); have zz13_1 : pb < w13.heap.size := (by omega); have zz13_2 : pi < w13.heap.size := (by omega); have zz13_3 : pk < w13.heap.size := (by omega); have zz13_4 : pz < w13.heap.size := (by omega); have zz13_5 : p0 < w13.heap.size := (by omega); have zz13_6 : w11.heap.size < w13.heap.size := (by omega); have zz13_7 : w12.heap.size < w13.heap.size := (by omega)))
      all_goals
        go_ret
        exact ⟨by simp [*], bel⟩
set_option maxHeartbeats 16000000 in
theorem ord_IFs {a0 f hi1 lo1 hi2 lo2 H1 L1 H2 L2 ex1 ex2 clb exb cc xe1 xe2 : Int} {ng1 ng2 ni1 ni2 ngb nx1 nx2 : Bool} {l1 l2 li1 li2 lb lx1 lx2 : List Int} (w : World)
    (hT : Tab w)
    (HWh : Hid (∀ w', Calls Tryd.prog 21 #[.int .u8 a0] w' fun e w'' => e = .returned (.int .i64 f) ∧ Below w'.heap.size w' w''))
    (HC1 : Hid (∀ w', Calls Tryd.prog 22 #[.int .i64 f, .agg #[.int .u64 hi1, .int .u64 lo1]] w' fun e w'' => e = .returned (.agg #[.int .u64 H1, .int .u64 L1]) ∧ Below w'.heap.size w' w''))
    (HD1 : Hid (∀ w', Calls Tryd.prog 15 #[.int .i64 f, .agg #[.int .u64 H1, .int .u64 L1]] w' fun e w'' => ∃ v3 : Value, e = .returned (.tuple #[.agg #[.int .i64 f, .int .i64 2, .bool ng1, v3, .int .i64 ex1], .int .i64 0]) ∧ Kd.R (Kd.int .u32) 77 w'' w'.heap.size (fun _ => True) v3 l1 ∧ Below w'.heap.size w' w''))
    (HI1 : Hid (∀ A c w', Kd.C (Kd.int .u32) w' A l1.length l1 → l1.length ≤ c → Calls Tryd.prog 23 #[dV f 2 ng1 A l1.length c ex1] w' fun e w'' => ∃ v3 : Value, e = .returned (.tuple #[.agg #[.bool ni1, v3], .int .i64 0]) ∧ Kd.R (Kd.int .u32) 77 w'' w'.heap.size (fun _ => True) v3 li1 ∧ Below w'.heap.size w' w''))
    (HC2 : Hid (∀ w', Calls Tryd.prog 22 #[.int .i64 f, .agg #[.int .u64 hi2, .int .u64 lo2]] w' fun e w'' => e = .returned (.agg #[.int .u64 H2, .int .u64 L2]) ∧ Below w'.heap.size w' w''))
    (HD2 : Hid (∀ w', Calls Tryd.prog 15 #[.int .i64 f, .agg #[.int .u64 H2, .int .u64 L2]] w' fun e w'' => ∃ v3 : Value, e = .returned (.tuple #[.agg #[.int .i64 f, .int .i64 1, .bool ng2, v3, .int .i64 ex2], .int .i64 0]) ∧ Kd.R (Kd.int .u32) 77 w'' w'.heap.size (fun _ => True) v3 l2 ∧ Below w'.heap.size w' w''))
    (HI2 : Hid (∀ A c w', Kd.C (Kd.int .u32) w' A l2.length l2 → l2.length ≤ c → Calls Tryd.prog 23 #[dV f 1 ng2 A l2.length c ex2] w' fun e w'' => ∃ v3 : Value, e = .returned (.tuple #[.agg #[.bool ni2, v3], .int .i64 0]) ∧ Kd.R (Kd.int .u32) 77 w'' w'.heap.size (fun _ => True) v3 li2 ∧ Below w'.heap.size w' w''))
    (HSa : Hid (∀ w', Tab w' → Calls Tryd.prog 11 #[] w' fun e w'' => e = .returned (.bool true) ∧ Below w'.heap.size w' w''))
    (HAt : Hid (∀ A c w', Kd.C (Kd.int .u32) w' A li1.length li1 → li1.length ≤ c → Calls Tryd.prog 33 #[.int .i64 f, .agg #[.bool ni1, .slice A li1.length c]] w' fun e w'' => ∃ v3 : Value, e = .returned (.tuple #[.agg #[.int .i64 f, .int .i64 clb, .bool ngb, v3, .int .i64 exb], .int .i64 0]) ∧ Kd.R (Kd.int .u32) 77 w'' w'.heap.size (fun _ => True) v3 lb ∧ Below w'.heap.size w' w''))
    (HSm : Hid (∀ A c A' c' w', Kd.C (Kd.int .u32) w' A lb.length lb → lb.length ≤ c → Kd.C (Kd.int .u32) w' A' l1.length l1 → l1.length ≤ c' → Calls Tryd.prog 19 #[.agg #[.int .i64 f, .int .i64 clb, .bool ngb, .slice A lb.length c, .int .i64 exb], .agg #[.int .i64 f, .int .i64 2, .bool ng1, .slice A' l1.length c', .int .i64 ex1]] w' fun e w'' => e = .returned (.bool true) ∧ Below w'.heap.size w' w''))
    (HOI : Hid (∀ A c A' c' w', Kd.C (Kd.int .u32) w' A li1.length li1 → li1.length ≤ c → Kd.C (Kd.int .u32) w' A' li2.length li2 → li2.length ≤ c' → Calls Tryd.prog 34 #[.agg #[.bool ni1, .slice A li1.length c], .agg #[.bool ni2, .slice A' li2.length c']] w' fun e w'' => e = .returned (.int .i64 cc) ∧ Below w'.heap.size w' w''))
    (HV1 : Hid (∀ A c w', Tab w' → Kd.C (Kd.int .u32) w' A l1.length l1 → l1.length ≤ c → Calls Tryd.prog 30 #[dV f 2 ng1 A l1.length c ex1] w' fun e w'' => ∃ v3 : Value, e = .returned (.tuple #[.agg #[.bool nx1, v3, .int .i64 xe1], .int .i64 5]) ∧ Kd.R (Kd.int .u32) 77 w'' w'.heap.size (fun _ => True) v3 lx1 ∧ Below w'.heap.size w' w''))
    (HV2 : Hid (∀ A c w', Tab w' → Kd.C (Kd.int .u32) w' A l2.length l2 → l2.length ≤ c → Calls Tryd.prog 30 #[dV f 1 ng2 A l2.length c ex2] w' fun e w'' => ∃ v3 : Value, e = .returned (.tuple #[.agg #[.bool nx2, v3, .int .i64 xe2], .int .i64 0]) ∧ Kd.R (Kd.int .u32) 77 w'' w'.heap.size (fun _ => True) v3 lx2 ∧ Below w'.heap.size w' w''))
    (t1 : decide (cc < 0) = ng1) (t2 : (cc != 0) = true) :
    Calls Tryd.prog 8 #[.int .u8 a0, .agg #[.int .u64 hi1, .int .u64 lo1], .agg #[.int .u64 hi2, .int .u64 lo2]] w fun e w' => e = .returned (.bool true) ∧ Below w.heap.size w w' := by
  have HT := Lib.hid hT
  clear hT
  go_enter Tryd.func8, Tryd.ntmps8
  go_upto_region 5 with (first | fail | (go_at_call 21; (with_reducible refine (HWh.out _).mono ?_); rintro e w1 ⟨rfl, b1⟩; obtain ⟨hc1, hf1⟩ := bcell b1; have hz1 := below_size b1; (try simp at hz1); have zz1_0 : w.heap.size < w1.heap.size := (by omega); have zz1_1 : w.heap.size + 1 < w1.heap.size := (by omega)) | (go_at_call 22; (with_reducible refine (HC1.out _).mono ?_); rintro e w2 ⟨rfl, b2⟩; obtain ⟨hc2, hf2⟩ := bcell b2; have hz2 := below_size b2; (try simp at hz2); have zz2_0 : w.heap.size < w2.heap.size := (by omega); have zz2_1 : w.heap.size + 1 < w2.heap.size := (by omega)) | (go_at_call 15; (with_reducible refine (HD1.out _).mono ?_); rintro e w3 ⟨v3, rfl, hv3, b3⟩; obtain ⟨A3, c3, rfl⟩ := Kd.R_slice hv3; have HC3 := Lib.hid (R_C hv3); clear hv3; obtain ⟨hc3, hf3⟩ := bcell b3; have hz3 := below_size b3; (try simp at hz3); have zz3_0 : w.heap.size < w3.heap.size := (by omega); have zz3_1 : w.heap.size + 1 < w3.heap.size := (by omega)) | (go_at_call 22; (with_reducible refine (HC2.out _).mono ?_); rintro e w4 ⟨rfl, b4⟩; obtain ⟨hc4, hf4⟩ := bcell b4; have hz4 := below_size b4; (try simp at hz4); have zz4_0 : w.heap.size < w4.heap.size := (by omega); have zz4_1 : w.heap.size + 1 < w4.heap.size := (by omega); have zz4_2 : w3.heap.size < w4.heap.size := (by omega)) | (go_at_call 15; (with_reducible refine (HD2.out _).mono ?_); rintro e w5 ⟨v5, rfl, hv5, b5⟩; obtain ⟨A5, c5, rfl⟩ := Kd.R_slice hv5; have HC5 := Lib.hid (R_C hv5); clear hv5; obtain ⟨hc5, hf5⟩ := bcell b5; have hz5 := below_size b5; (try simp at hz5); have zz5_0 : w.heap.size < w5.heap.size := (by omega); have zz5_1 : w.heap.size + 1 < w5.heap.size := (by omega); have zz5_2 : w3.heap.size < w5.heap.size := (by omega)) | (go_at_call 23; (with_reducible refine (HI1.out _ _ _ (Kd.C_below HC3.out.1 bel) HC3.out.2).mono ?_); rintro e w6 ⟨v6, rfl, hv6, b6⟩; obtain ⟨A6, c6, rfl⟩ := Kd.R_slice hv6; have HC6 := Lib.hid (R_C hv6); clear hv6; obtain ⟨hc6, hf6⟩ := bcell b6; have hz6 := below_size b6; (try simp at hz6); have zz6_0 : w.heap.size < w6.heap.size := (by omega); have zz6_1 : w.heap.size + 1 < w6.heap.size := (by omega); have zz6_2 : w3.heap.size < w6.heap.size := (by omega); have zz6_3 : w5.heap.size < w6.heap.size := (by omega)))
  go_cut [7, 8, 10, 12, 13, 14, 15] (fun v7 v8 v10 v12 v13 v14 v15 wx => ∃ (pa pb pi pk : Nat) (Aa : Option Addr) (ca : Nat) (Ab : Option Addr) (cb : Nat) (Ai : Option Addr) (ci : Nat) (Ak : Option Addr) (ck : Nat), v7 = .int .i64 f ∧ v8 = .pointer (some ⟨pa, 0, none⟩) ∧ v10 = .pointer (some ⟨pb, 0, none⟩) ∧ v12 = .pointer (some ⟨pi, 0, none⟩) ∧ v13 = .int .i64 0 ∧ v14 = .pointer (some ⟨pk, 0, none⟩) ∧ v15 = .int .i64 0 ∧ BlkIs wx pa 25 (· = #[.int .i64 f, .int .i64 2, .bool ng1, .slice Aa l1.length ca, .int .i64 ex1]) ∧ BlkIs wx pb 25 (· = #[.int .i64 f, .int .i64 1, .bool ng2, .slice Ab l2.length cb, .int .i64 ex2]) ∧ BlkIs wx pi 48 (· = #[.bool ni1, .slice Ai li1.length ci]) ∧ BlkIs wx pk 48 (· = #[.bool ni2, .slice Ak li2.length ck]) ∧ Hid (Kd.C (Kd.int .u32) wx Aa l1.length l1 ∧ l1.length ≤ ca) ∧ Hid (Kd.C (Kd.int .u32) wx Ab l2.length l2 ∧ l2.length ≤ cb) ∧ Hid (Kd.C (Kd.int .u32) wx Ai li1.length li1 ∧ li1.length ≤ ci) ∧ Hid (Kd.C (Kd.int .u32) wx Ak li2.length li2 ∧ li2.length ≤ ck) ∧ Below w.heap.size w wx)
  case first =>
    go_wp2_with (first | fail | (go_at_call 23; (with_reducible refine (HI2.out _ _ _ (Kd.C_below HC5.out.1 bel) HC5.out.2).mono ?_); rintro e w7 ⟨v7, rfl, hv7, b7⟩; obtain ⟨A7, c7, rfl⟩ := Kd.R_slice hv7; have HC7 := Lib.hid (R_C hv7); clear hv7; obtain ⟨hc7, hf7⟩ := bcell b7; have hz7 := below_size b7; (try simp at hz7); have zz7_0 : w.heap.size < w7.heap.size := (by omega); have zz7_1 : w.heap.size + 1 < w7.heap.size := (by omega); have zz7_2 : w3.heap.size < w7.heap.size := (by omega); have zz7_3 : w5.heap.size < w7.heap.size := (by omega); have zz7_4 : w6.heap.size < w7.heap.size := (by omega)))
    go_meet
    exact ⟨_, _, _, _, _, _, _, _, _, _, _, _, rfl, rfl, rfl, rfl, rfl, rfl, rfl, blk0, blk0, blk0, blk0, Lib.hid ⟨Kd.C_below HC3.out.1 bel, HC3.out.2⟩, Lib.hid ⟨Kd.C_below HC5.out.1 bel, HC5.out.2⟩, Lib.hid ⟨Kd.C_below HC6.out.1 bel, HC6.out.2⟩, Lib.hid ⟨Kd.C_below HC7.out.1 bel, HC7.out.2⟩, bel⟩
  case rest =>
    clear HWh HC1 HC2 HD1 HD2 HI1 HI2
    obtain ⟨pa, pb, pi, pk, Aa, ca, Ab, cb, Ai, ci, Ak, ck, rfl, rfl, rfl, rfl, rfl, rfl, rfl, HBa, HBb, HBi, HBk, HXa, HXb, HXi, HXk, hbw⟩ := hcut
    obtain ⟨csa, hbka, rfl⟩ := HBa
    have a0 : wc.cell? ⟨pa, 0, none⟩ = some (.int .i64 f) := by simpa using blk_cell hbka 0
    have a1 : wc.cell? ⟨pa, 1, none⟩ = some (.int .i64 2) := by simpa using blk_cell hbka 1
    have a2 : wc.cell? ⟨pa, 2, none⟩ = some (.bool ng1) := by simpa using blk_cell hbka 2
    have a3 : wc.cell? ⟨pa, 3, none⟩ = some (.slice Aa l1.length ca) := by simpa using blk_cell hbka 3
    have a4 : wc.cell? ⟨pa, 4, none⟩ = some (.int .i64 ex1) := by simpa using blk_cell hbka 4
    have az : pa < wc.heap.size := blk_lt hbka
    have HBah := Lib.hid hbka
    clear hbka
    obtain ⟨csb, hbkb, rfl⟩ := HBb
    have b0 : wc.cell? ⟨pb, 0, none⟩ = some (.int .i64 f) := by simpa using blk_cell hbkb 0
    have b1 : wc.cell? ⟨pb, 1, none⟩ = some (.int .i64 1) := by simpa using blk_cell hbkb 1
    have b2 : wc.cell? ⟨pb, 2, none⟩ = some (.bool ng2) := by simpa using blk_cell hbkb 2
    have b3 : wc.cell? ⟨pb, 3, none⟩ = some (.slice Ab l2.length cb) := by simpa using blk_cell hbkb 3
    have b4 : wc.cell? ⟨pb, 4, none⟩ = some (.int .i64 ex2) := by simpa using blk_cell hbkb 4
    have bz : pb < wc.heap.size := blk_lt hbkb
    have HBbh := Lib.hid hbkb
    clear hbkb
    obtain ⟨csi, hbki, rfl⟩ := HBi
    have i0 : wc.cell? ⟨pi, 0, none⟩ = some (.bool ni1) := by simpa using blk_cell hbki 0
    have i1 : wc.cell? ⟨pi, 1, none⟩ = some (.slice Ai li1.length ci) := by simpa using blk_cell hbki 1
    have iz : pi < wc.heap.size := blk_lt hbki
    have HBih := Lib.hid hbki
    clear hbki
    obtain ⟨csk, hbkk, rfl⟩ := HBk
    have k0 : wc.cell? ⟨pk, 0, none⟩ = some (.bool ni2) := by simpa using blk_cell hbkk 0
    have k1 : wc.cell? ⟨pk, 1, none⟩ = some (.slice Ak li2.length ck) := by simpa using blk_cell hbkk 1
    have kz : pk < wc.heap.size := blk_lt hbkk
    have HBkh := Lib.hid hbkk
    clear hbkk
    go_upto_region 9 with (first | fail | (go_at_call 33; (with_reducible refine (HAt.out _ _ _ (Kd.C_below HXi.out.1 bel) HXi.out.2).mono ?_); rintro e w8 ⟨v8, rfl, hv8, b8⟩; obtain ⟨A8, c8, rfl⟩ := Kd.R_slice hv8; have HC8 := Lib.hid (R_C hv8); clear hv8; obtain ⟨hc8, hf8⟩ := bcell b8; have hz8 := below_size b8; (try simp at hz8); have zz8_0 : pa < w8.heap.size := (by omega); have zz8_1 : pb < w8.heap.size := (by omega); have zz8_2 : pi < w8.heap.size := (by omega); have zz8_3 : pk < w8.heap.size := (by omega)))
    go_cut [8, 10, 12, 14, 16, 17, 18] (fun v8 v10 v12 v14 v16 v17 v18 wx => ∃ (pz p0 : Nat) (Az : Option Addr) (cz : Nat), v8 = .pointer (some ⟨pa, 0, none⟩) ∧ v10 = .pointer (some ⟨pb, 0, none⟩) ∧ v12 = .pointer (some ⟨pi, 0, none⟩) ∧ v14 = .pointer (some ⟨pk, 0, none⟩) ∧ v16 = .pointer (some ⟨pz, 0, none⟩) ∧ v17 = .int .i64 0 ∧ v18 = .pointer (some ⟨p0, 0, none⟩) ∧ BlkIs wx pa 25 (· = #[.int .i64 f, .int .i64 2, .bool ng1, .slice Aa l1.length ca, .int .i64 ex1]) ∧ BlkIs wx pb 25 (· = #[.int .i64 f, .int .i64 1, .bool ng2, .slice Ab l2.length cb, .int .i64 ex2]) ∧ BlkIs wx pi 48 (· = #[.bool ni1, .slice Ai li1.length ci]) ∧ BlkIs wx pk 48 (· = #[.bool ni2, .slice Ak li2.length ck]) ∧ BlkIs wx pz 25 (· = #[.int .i64 f, .int .i64 clb, .bool ngb, .slice Az lb.length cz, .int .i64 exb]) ∧ BlkIs wx p0 25 (· = #[.int .i64 f, .int .i64 1, .bool true, .slice none 0 0, .int .i64 ex1]) ∧ Hid (Kd.C (Kd.int .u32) wx Aa l1.length l1 ∧ l1.length ≤ ca) ∧ Hid (Kd.C (Kd.int .u32) wx Ab l2.length l2 ∧ l2.length ≤ cb) ∧ Hid (Kd.C (Kd.int .u32) wx Ai li1.length li1 ∧ li1.length ≤ ci) ∧ Hid (Kd.C (Kd.int .u32) wx Ak li2.length li2 ∧ li2.length ≤ ck) ∧ Hid (Kd.C (Kd.int .u32) wx Az lb.length lb ∧ lb.length ≤ cz) ∧ Below w.heap.size w wx)
    case first =>
      go_wp2_with fail
      go_meet
      have hbka := HBah.out
      have hbkb := HBbh.out
      have hbki := HBih.out
      have hbkk := HBkh.out
      exact ⟨_, _, _, _, rfl, rfl, rfl, rfl, rfl, rfl, rfl, blk1, blk1, blk1, blk1, blk0, blk0, Lib.hid ⟨Kd.C_below HXa.out.1 bel, HXa.out.2⟩, Lib.hid ⟨Kd.C_below HXb.out.1 bel, HXb.out.2⟩, Lib.hid ⟨Kd.C_below HXi.out.1 bel, HXi.out.2⟩, Lib.hid ⟨Kd.C_below HXk.out.1 bel, HXk.out.2⟩, Lib.hid ⟨Kd.C_below HC8.out.1 bel, HC8.out.2⟩, bel⟩
    case rest =>
      clear HAt HBah HBbh HBih HBkh HXa HXb HXi HXk hbw a0 a1 a2 a3 a4 az b0 b1 b2 b3 b4 bz i0 i1 iz k0 k1 kz
      obtain ⟨pz, p0, Az, cz, rfl, rfl, rfl, rfl, rfl, rfl, rfl, HBa, HBb, HBi, HBk, HBz, HBo, HXa, HXb, HXi, HXk, HXz, hbw⟩ := hcut
      obtain ⟨csa, hbka, rfl⟩ := HBa
      have a0 : wc.cell? ⟨pa, 0, none⟩ = some (.int .i64 f) := by simpa using blk_cell hbka 0
      have a1 : wc.cell? ⟨pa, 1, none⟩ = some (.int .i64 2) := by simpa using blk_cell hbka 1
      have a2 : wc.cell? ⟨pa, 2, none⟩ = some (.bool ng1) := by simpa using blk_cell hbka 2
      have a3 : wc.cell? ⟨pa, 3, none⟩ = some (.slice Aa l1.length ca) := by simpa using blk_cell hbka 3
      have a4 : wc.cell? ⟨pa, 4, none⟩ = some (.int .i64 ex1) := by simpa using blk_cell hbka 4
      have az : pa < wc.heap.size := blk_lt hbka
      have HBah := Lib.hid hbka
      clear hbka
      obtain ⟨csb, hbkb, rfl⟩ := HBb
      have b0 : wc.cell? ⟨pb, 0, none⟩ = some (.int .i64 f) := by simpa using blk_cell hbkb 0
      have b1 : wc.cell? ⟨pb, 1, none⟩ = some (.int .i64 1) := by simpa using blk_cell hbkb 1
      have b2 : wc.cell? ⟨pb, 2, none⟩ = some (.bool ng2) := by simpa using blk_cell hbkb 2
      have b3 : wc.cell? ⟨pb, 3, none⟩ = some (.slice Ab l2.length cb) := by simpa using blk_cell hbkb 3
      have b4 : wc.cell? ⟨pb, 4, none⟩ = some (.int .i64 ex2) := by simpa using blk_cell hbkb 4
      have bz : pb < wc.heap.size := blk_lt hbkb
      have HBbh := Lib.hid hbkb
      clear hbkb
      obtain ⟨csi, hbki, rfl⟩ := HBi
      have i0 : wc.cell? ⟨pi, 0, none⟩ = some (.bool ni1) := by simpa using blk_cell hbki 0
      have i1 : wc.cell? ⟨pi, 1, none⟩ = some (.slice Ai li1.length ci) := by simpa using blk_cell hbki 1
      have iz : pi < wc.heap.size := blk_lt hbki
      have HBih := Lib.hid hbki
      clear hbki
      obtain ⟨csk, hbkk, rfl⟩ := HBk
      have k0 : wc.cell? ⟨pk, 0, none⟩ = some (.bool ni2) := by simpa using blk_cell hbkk 0
      have k1 : wc.cell? ⟨pk, 1, none⟩ = some (.slice Ak li2.length ck) := by simpa using blk_cell hbkk 1
      have kz : pk < wc.heap.size := blk_lt hbkk
      have HBkh := Lib.hid hbkk
      clear hbkk
      obtain ⟨csz, hbkz, rfl⟩ := HBz
      have z0 : wc.cell? ⟨pz, 0, none⟩ = some (.int .i64 f) := by simpa using blk_cell hbkz 0
      have z1 : wc.cell? ⟨pz, 1, none⟩ = some (.int .i64 clb) := by simpa using blk_cell hbkz 1
      have z2 : wc.cell? ⟨pz, 2, none⟩ = some (.bool ngb) := by simpa using blk_cell hbkz 2
      have z3 : wc.cell? ⟨pz, 3, none⟩ = some (.slice Az lb.length cz) := by simpa using blk_cell hbkz 3
      have z4 : wc.cell? ⟨pz, 4, none⟩ = some (.int .i64 exb) := by simpa using blk_cell hbkz 4
      have zz : pz < wc.heap.size := blk_lt hbkz
      have HBzh := Lib.hid hbkz
      clear hbkz
      obtain ⟨cso, hbko, rfl⟩ := HBo
      have o0 : wc.cell? ⟨p0, 0, none⟩ = some (.int .i64 f) := by simpa using blk_cell hbko 0
      have o1 : wc.cell? ⟨p0, 1, none⟩ = some (.int .i64 1) := by simpa using blk_cell hbko 1
      have o2 : wc.cell? ⟨p0, 2, none⟩ = some (.bool true) := by simpa using blk_cell hbko 2
      have o3 : wc.cell? ⟨p0, 3, none⟩ = some (.slice none 0 0) := by simpa using blk_cell hbko 3
      have o4 : wc.cell? ⟨p0, 4, none⟩ = some (.int .i64 ex1) := by simpa using blk_cell hbko 4
      have oz : p0 < wc.heap.size := blk_lt hbko
      have HBoh := Lib.hid hbko
      clear hbko
      go_wp2_with (first | fail | (go_at_call 19; (with_reducible refine (HSm.out _ _ _ _ _ (Kd.C_below HXz.out.1 bel) HXz.out.2 (Kd.C_below HXa.out.1 bel) HXa.out.2).mono ?_); rintro e w9 ⟨rfl, b9⟩; obtain ⟨hc9, hf9⟩ := bcell b9; have hz9 := below_size b9; (try simp at hz9); have zz9_0 : pa < w9.heap.size := (by omega); have zz9_1 : pb < w9.heap.size := (by omega); have zz9_2 : pi < w9.heap.size := (by omega); have zz9_3 : pk < w9.heap.size := (by omega); have zz9_4 : pz < w9.heap.size := (by omega); have zz9_5 : p0 < w9.heap.size := (by omega)) | (go_at_call 34; (with_reducible refine (HOI.out _ _ _ _ _ (Kd.C_below HXi.out.1 bel) HXi.out.2 (Kd.C_below HXk.out.1 bel) HXk.out.2).mono ?_); rintro e w10 ⟨rfl, b10⟩; obtain ⟨hc10, hf10⟩ := bcell b10; have hz10 := below_size b10; (try simp at hz10); have zz10_0 : pa < w10.heap.size := (by omega); have zz10_1 : pb < w10.heap.size := (by omega); have zz10_2 : pi < w10.heap.size := (by omega); have zz10_3 : pk < w10.heap.size := (by omega); have zz10_4 : pz < w10.heap.size := (by omega); have zz10_5 : p0 < w10.heap.size := (by omega)) | (go_at_call 30; (with_reducible refine (HV1.out _ _ _ (HT.out.below bel) (Kd.C_below HXa.out.1 bel) HXa.out.2).mono ?_); rintro e w11 ⟨v11, rfl, hv11, b11⟩; obtain ⟨A11, c11, rfl⟩ := Kd.R_slice hv11; have HC11 := Lib.hid (R_C hv11); clear hv11; obtain ⟨hc11, hf11⟩ := bcell b11; have hz11 := below_size b11; (try simp at hz11); have zz11_0 : pa < w11.heap.size := (by omega); have zz11_1 : pb < w11.heap.size := (by omega); have zz11_2 : pi < w11.heap.size := (by omega); have zz11_3 : pk < w11.heap.size := (by omega); have zz11_4 : pz < w11.heap.size := (by omega); have zz11_5 : p0 < w11.heap.size := (by omega)) | (go_at_call 30; (with_reducible refine (HV2.out _ _ _ (HT.out.below bel) (Kd.C_below HXb.out.1 bel) HXb.out.2).mono ?_); rintro e w12 ⟨v12, rfl, hv12, b12⟩; obtain ⟨A12, c12, rfl⟩ := Kd.R_slice hv12; have HC12 := Lib.hid (R_C hv12); clear hv12; obtain ⟨hc12, hf12⟩ := bcell b12; have hz12 := below_size b12; (try simp at hz12); have zz12_0 : pa < w12.heap.size := (by omega); have zz12_1 : pb < w12.heap.size := (by omega); have zz12_2 : pi < w12.heap.size := (by omega); have zz12_3 : pk < w12.heap.size := (by omega); have zz12_4 : pz < w12.heap.size := (by omega); have zz12_5 : p0 < w12.heap.size := (by omega); have zz12_6 : w11.heap.size < w12.heap.size := (by omega)) | (go_at_call 11; (with_reducible refine (HSa.out _ (HT.out.below bel)).mono ?_); rintro e w13 ⟨rfl, b13⟩; obtain ⟨hc13, hf13⟩ := bcell b13; have hz13 := below_size b13; (try simp at hz13); have zz13_0 : pa < w13.heap.size := (by omega); have zz13_1 : pb < w13.heap.size := (by omega); have zz13_2 : pi < w13.heap.size := (by omega); have zz13_3 : pk < w13.heap.size := (by omega); have zz13_4 : pz < w13.heap.size := (by omega); have zz13_5 : p0 < w13.heap.size := (by omega); have zz13_6 : w11.heap.size < w13.heap.size := (by omega); have zz13_7 : w12.heap.size < w13.heap.size := (by omega)))
      all_goals
        go_ret
        exact ⟨by simp [*], bel⟩
set_option maxHeartbeats 16000000 in
theorem ord_FIs {a0 f hi1 lo1 hi2 lo2 H1 L1 H2 L2 ex1 ex2 clb exb cc xe1 xe2 : Int} {ng1 ng2 ni1 ni2 ngb nx1 nx2 : Bool} {l1 l2 li1 li2 lb lx1 lx2 : List Int} (w : World)
    (hT : Tab w)
    (HWh : Hid (∀ w', Calls Tryd.prog 21 #[.int .u8 a0] w' fun e w'' => e = .returned (.int .i64 f) ∧ Below w'.heap.size w' w''))
    (HC1 : Hid (∀ w', Calls Tryd.prog 22 #[.int .i64 f, .agg #[.int .u64 hi1, .int .u64 lo1]] w' fun e w'' => e = .returned (.agg #[.int .u64 H1, .int .u64 L1]) ∧ Below w'.heap.size w' w''))
    (HD1 : Hid (∀ w', Calls Tryd.prog 15 #[.int .i64 f, .agg #[.int .u64 H1, .int .u64 L1]] w' fun e w'' => ∃ v3 : Value, e = .returned (.tuple #[.agg #[.int .i64 f, .int .i64 1, .bool ng1, v3, .int .i64 ex1], .int .i64 0]) ∧ Kd.R (Kd.int .u32) 77 w'' w'.heap.size (fun _ => True) v3 l1 ∧ Below w'.heap.size w' w''))
    (HI1 : Hid (∀ A c w', Kd.C (Kd.int .u32) w' A l1.length l1 → l1.length ≤ c → Calls Tryd.prog 23 #[dV f 1 ng1 A l1.length c ex1] w' fun e w'' => ∃ v3 : Value, e = .returned (.tuple #[.agg #[.bool ni1, v3], .int .i64 0]) ∧ Kd.R (Kd.int .u32) 77 w'' w'.heap.size (fun _ => True) v3 li1 ∧ Below w'.heap.size w' w''))
    (HC2 : Hid (∀ w', Calls Tryd.prog 22 #[.int .i64 f, .agg #[.int .u64 hi2, .int .u64 lo2]] w' fun e w'' => e = .returned (.agg #[.int .u64 H2, .int .u64 L2]) ∧ Below w'.heap.size w' w''))
    (HD2 : Hid (∀ w', Calls Tryd.prog 15 #[.int .i64 f, .agg #[.int .u64 H2, .int .u64 L2]] w' fun e w'' => ∃ v3 : Value, e = .returned (.tuple #[.agg #[.int .i64 f, .int .i64 2, .bool ng2, v3, .int .i64 ex2], .int .i64 0]) ∧ Kd.R (Kd.int .u32) 77 w'' w'.heap.size (fun _ => True) v3 l2 ∧ Below w'.heap.size w' w''))
    (HI2 : Hid (∀ A c w', Kd.C (Kd.int .u32) w' A l2.length l2 → l2.length ≤ c → Calls Tryd.prog 23 #[dV f 2 ng2 A l2.length c ex2] w' fun e w'' => ∃ v3 : Value, e = .returned (.tuple #[.agg #[.bool ni2, v3], .int .i64 0]) ∧ Kd.R (Kd.int .u32) 77 w'' w'.heap.size (fun _ => True) v3 li2 ∧ Below w'.heap.size w' w''))
    (HSa : Hid (∀ w', Tab w' → Calls Tryd.prog 11 #[] w' fun e w'' => e = .returned (.bool true) ∧ Below w'.heap.size w' w''))
    (HAt : Hid (∀ A c w', Kd.C (Kd.int .u32) w' A li1.length li1 → li1.length ≤ c → Calls Tryd.prog 33 #[.int .i64 f, .agg #[.bool ni1, .slice A li1.length c]] w' fun e w'' => ∃ v3 : Value, e = .returned (.tuple #[.agg #[.int .i64 f, .int .i64 clb, .bool ngb, v3, .int .i64 exb], .int .i64 0]) ∧ Kd.R (Kd.int .u32) 77 w'' w'.heap.size (fun _ => True) v3 lb ∧ Below w'.heap.size w' w''))
    (HSm : Hid (∀ A c A' c' w', Kd.C (Kd.int .u32) w' A lb.length lb → lb.length ≤ c → Kd.C (Kd.int .u32) w' A' l1.length l1 → l1.length ≤ c' → Calls Tryd.prog 19 #[.agg #[.int .i64 f, .int .i64 clb, .bool ngb, .slice A lb.length c, .int .i64 exb], .agg #[.int .i64 f, .int .i64 1, .bool ng1, .slice A' l1.length c', .int .i64 ex1]] w' fun e w'' => e = .returned (.bool true) ∧ Below w'.heap.size w' w''))
    (HOI : Hid (∀ A c A' c' w', Kd.C (Kd.int .u32) w' A li1.length li1 → li1.length ≤ c → Kd.C (Kd.int .u32) w' A' li2.length li2 → li2.length ≤ c' → Calls Tryd.prog 34 #[.agg #[.bool ni1, .slice A li1.length c], .agg #[.bool ni2, .slice A' li2.length c']] w' fun e w'' => e = .returned (.int .i64 cc) ∧ Below w'.heap.size w' w''))
    (HV1 : Hid (∀ A c w', Tab w' → Kd.C (Kd.int .u32) w' A l1.length l1 → l1.length ≤ c → Calls Tryd.prog 30 #[dV f 1 ng1 A l1.length c ex1] w' fun e w'' => ∃ v3 : Value, e = .returned (.tuple #[.agg #[.bool nx1, v3, .int .i64 xe1], .int .i64 0]) ∧ Kd.R (Kd.int .u32) 77 w'' w'.heap.size (fun _ => True) v3 lx1 ∧ Below w'.heap.size w' w''))
    (HV2 : Hid (∀ A c w', Tab w' → Kd.C (Kd.int .u32) w' A l2.length l2 → l2.length ≤ c → Calls Tryd.prog 30 #[dV f 2 ng2 A l2.length c ex2] w' fun e w'' => ∃ v3 : Value, e = .returned (.tuple #[.agg #[.bool nx2, v3, .int .i64 xe2], .int .i64 5]) ∧ Kd.R (Kd.int .u32) 77 w'' w'.heap.size (fun _ => True) v3 lx2 ∧ Below w'.heap.size w' w''))
    (t1 : decide (cc > 0) = ng2) (t2 : (cc != 0) = true) :
    Calls Tryd.prog 8 #[.int .u8 a0, .agg #[.int .u64 hi1, .int .u64 lo1], .agg #[.int .u64 hi2, .int .u64 lo2]] w fun e w' => e = .returned (.bool true) ∧ Below w.heap.size w w' := by
  have HT := Lib.hid hT
  clear hT
  go_enter Tryd.func8, Tryd.ntmps8
  go_upto_region 5 with (first | fail | (go_at_call 21; (with_reducible refine (HWh.out _).mono ?_); rintro e w1 ⟨rfl, b1⟩; obtain ⟨hc1, hf1⟩ := bcell b1; have hz1 := below_size b1; (try simp at hz1); have zz1_0 : w.heap.size < w1.heap.size := (by omega); have zz1_1 : w.heap.size + 1 < w1.heap.size := (by omega)) | (go_at_call 22; (with_reducible refine (HC1.out _).mono ?_); rintro e w2 ⟨rfl, b2⟩; obtain ⟨hc2, hf2⟩ := bcell b2; have hz2 := below_size b2; (try simp at hz2); have zz2_0 : w.heap.size < w2.heap.size := (by omega); have zz2_1 : w.heap.size + 1 < w2.heap.size := (by omega)) | (go_at_call 15; (with_reducible refine (HD1.out _).mono ?_); rintro e w3 ⟨v3, rfl, hv3, b3⟩; obtain ⟨A3, c3, rfl⟩ := Kd.R_slice hv3; have HC3 := Lib.hid (R_C hv3); clear hv3; obtain ⟨hc3, hf3⟩ := bcell b3; have hz3 := below_size b3; (try simp at hz3); have zz3_0 : w.heap.size < w3.heap.size := (by omega); have zz3_1 : w.heap.size + 1 < w3.heap.size := (by omega)) | (go_at_call 22; (with_reducible refine (HC2.out _).mono ?_); rintro e w4 ⟨rfl, b4⟩; obtain ⟨hc4, hf4⟩ := bcell b4; have hz4 := below_size b4; (try simp at hz4); have zz4_0 : w.heap.size < w4.heap.size := (by omega); have zz4_1 : w.heap.size + 1 < w4.heap.size := (by omega); have zz4_2 : w3.heap.size < w4.heap.size := (by omega)) | (go_at_call 15; (with_reducible refine (HD2.out _).mono ?_); rintro e w5 ⟨v5, rfl, hv5, b5⟩; obtain ⟨A5, c5, rfl⟩ := Kd.R_slice hv5; have HC5 := Lib.hid (R_C hv5); clear hv5; obtain ⟨hc5, hf5⟩ := bcell b5; have hz5 := below_size b5; (try simp at hz5); have zz5_0 : w.heap.size < w5.heap.size := (by omega); have zz5_1 : w.heap.size + 1 < w5.heap.size := (by omega); have zz5_2 : w3.heap.size < w5.heap.size := (by omega)) | (go_at_call 23; (with_reducible refine (HI1.out _ _ _ (Kd.C_below HC3.out.1 bel) HC3.out.2).mono ?_); rintro e w6 ⟨v6, rfl, hv6, b6⟩; obtain ⟨A6, c6, rfl⟩ := Kd.R_slice hv6; have HC6 := Lib.hid (R_C hv6); clear hv6; obtain ⟨hc6, hf6⟩ := bcell b6; have hz6 := below_size b6; (try simp at hz6); have zz6_0 : w.heap.size < w6.heap.size := (by omega); have zz6_1 : w.heap.size + 1 < w6.heap.size := (by omega); have zz6_2 : w3.heap.size < w6.heap.size := (by omega); have zz6_3 : w5.heap.size < w6.heap.size := (by omega)))
  go_cut [7, 8, 10, 12, 13, 14, 15] (fun v7 v8 v10 v12 v13 v14 v15 wx => ∃ (pa pb pi pk : Nat) (Aa : Option Addr) (ca : Nat) (Ab : Option Addr) (cb : Nat) (Ai : Option Addr) (ci : Nat) (Ak : Option Addr) (ck : Nat), v7 = .int .i64 f ∧ v8 = .pointer (some ⟨pa, 0, none⟩) ∧ v10 = .pointer (some ⟨pb, 0, none⟩) ∧ v12 = .pointer (some ⟨pi, 0, none⟩) ∧ v13 = .int .i64 0 ∧ v14 = .pointer (some ⟨pk, 0, none⟩) ∧ v15 = .int .i64 0 ∧ BlkIs wx pa 25 (· = #[.int .i64 f, .int .i64 1, .bool ng1, .slice Aa l1.length ca, .int .i64 ex1]) ∧ BlkIs wx pb 25 (· = #[.int .i64 f, .int .i64 2, .bool ng2, .slice Ab l2.length cb, .int .i64 ex2]) ∧ BlkIs wx pi 48 (· = #[.bool ni1, .slice Ai li1.length ci]) ∧ BlkIs wx pk 48 (· = #[.bool ni2, .slice Ak li2.length ck]) ∧ Hid (Kd.C (Kd.int .u32) wx Aa l1.length l1 ∧ l1.length ≤ ca) ∧ Hid (Kd.C (Kd.int .u32) wx Ab l2.length l2 ∧ l2.length ≤ cb) ∧ Hid (Kd.C (Kd.int .u32) wx Ai li1.length li1 ∧ li1.length ≤ ci) ∧ Hid (Kd.C (Kd.int .u32) wx Ak li2.length li2 ∧ li2.length ≤ ck) ∧ Below w.heap.size w wx)
  case first =>
    go_wp2_with (first | fail | (go_at_call 23; (with_reducible refine (HI2.out _ _ _ (Kd.C_below HC5.out.1 bel) HC5.out.2).mono ?_); rintro e w7 ⟨v7, rfl, hv7, b7⟩; obtain ⟨A7, c7, rfl⟩ := Kd.R_slice hv7; have HC7 := Lib.hid (R_C hv7); clear hv7; obtain ⟨hc7, hf7⟩ := bcell b7; have hz7 := below_size b7; (try simp at hz7); have zz7_0 : w.heap.size < w7.heap.size := (by omega); have zz7_1 : w.heap.size + 1 < w7.heap.size := (by omega); have zz7_2 : w3.heap.size < w7.heap.size := (by omega); have zz7_3 : w5.heap.size < w7.heap.size := (by omega); have zz7_4 : w6.heap.size < w7.heap.size := (by omega)))
    go_meet
    exact ⟨_, _, _, _, _, _, _, _, _, _, _, _, rfl, rfl, rfl, rfl, rfl, rfl, rfl, blk0, blk0, blk0, blk0, Lib.hid ⟨Kd.C_below HC3.out.1 bel, HC3.out.2⟩, Lib.hid ⟨Kd.C_below HC5.out.1 bel, HC5.out.2⟩, Lib.hid ⟨Kd.C_below HC6.out.1 bel, HC6.out.2⟩, Lib.hid ⟨Kd.C_below HC7.out.1 bel, HC7.out.2⟩, bel⟩
  case rest =>
    clear HWh HC1 HC2 HD1 HD2 HI1 HI2
    obtain ⟨pa, pb, pi, pk, Aa, ca, Ab, cb, Ai, ci, Ak, ck, rfl, rfl, rfl, rfl, rfl, rfl, rfl, HBa, HBb, HBi, HBk, HXa, HXb, HXi, HXk, hbw⟩ := hcut
    obtain ⟨csa, hbka, rfl⟩ := HBa
    have a0 : wc.cell? ⟨pa, 0, none⟩ = some (.int .i64 f) := by simpa using blk_cell hbka 0
    have a1 : wc.cell? ⟨pa, 1, none⟩ = some (.int .i64 1) := by simpa using blk_cell hbka 1
    have a2 : wc.cell? ⟨pa, 2, none⟩ = some (.bool ng1) := by simpa using blk_cell hbka 2
    have a3 : wc.cell? ⟨pa, 3, none⟩ = some (.slice Aa l1.length ca) := by simpa using blk_cell hbka 3
    have a4 : wc.cell? ⟨pa, 4, none⟩ = some (.int .i64 ex1) := by simpa using blk_cell hbka 4
    have az : pa < wc.heap.size := blk_lt hbka
    have HBah := Lib.hid hbka
    clear hbka
    obtain ⟨csb, hbkb, rfl⟩ := HBb
    have b0 : wc.cell? ⟨pb, 0, none⟩ = some (.int .i64 f) := by simpa using blk_cell hbkb 0
    have b1 : wc.cell? ⟨pb, 1, none⟩ = some (.int .i64 2) := by simpa using blk_cell hbkb 1
    have b2 : wc.cell? ⟨pb, 2, none⟩ = some (.bool ng2) := by simpa using blk_cell hbkb 2
    have b3 : wc.cell? ⟨pb, 3, none⟩ = some (.slice Ab l2.length cb) := by simpa using blk_cell hbkb 3
    have b4 : wc.cell? ⟨pb, 4, none⟩ = some (.int .i64 ex2) := by simpa using blk_cell hbkb 4
    have bz : pb < wc.heap.size := blk_lt hbkb
    have HBbh := Lib.hid hbkb
    clear hbkb
    obtain ⟨csi, hbki, rfl⟩ := HBi
    have i0 : wc.cell? ⟨pi, 0, none⟩ = some (.bool ni1) := by simpa using blk_cell hbki 0
    have i1 : wc.cell? ⟨pi, 1, none⟩ = some (.slice Ai li1.length ci) := by simpa using blk_cell hbki 1
    have iz : pi < wc.heap.size := blk_lt hbki
    have HBih := Lib.hid hbki
    clear hbki
    obtain ⟨csk, hbkk, rfl⟩ := HBk
    have k0 : wc.cell? ⟨pk, 0, none⟩ = some (.bool ni2) := by simpa using blk_cell hbkk 0
    have k1 : wc.cell? ⟨pk, 1, none⟩ = some (.slice Ak li2.length ck) := by simpa using blk_cell hbkk 1
    have kz : pk < wc.heap.size := blk_lt hbkk
    have HBkh := Lib.hid hbkk
    clear hbkk
    go_upto_region 9 with (first | fail | (go_at_call 33; (with_reducible refine (HAt.out _ _ _ (Kd.C_below HXi.out.1 bel) HXi.out.2).mono ?_); rintro e w8 ⟨v8, rfl, hv8, b8⟩; obtain ⟨A8, c8, rfl⟩ := Kd.R_slice hv8; have HC8 := Lib.hid (R_C hv8); clear hv8; obtain ⟨hc8, hf8⟩ := bcell b8; have hz8 := below_size b8; (try simp at hz8); have zz8_0 : pa < w8.heap.size := (by omega); have zz8_1 : pb < w8.heap.size := (by omega); have zz8_2 : pi < w8.heap.size := (by omega); have zz8_3 : pk < w8.heap.size := (by omega)))
    go_cut [8, 10, 12, 14, 16, 17, 18] (fun v8 v10 v12 v14 v16 v17 v18 wx => ∃ (pz p0 : Nat) (Az : Option Addr) (cz : Nat), v8 = .pointer (some ⟨pa, 0, none⟩) ∧ v10 = .pointer (some ⟨pb, 0, none⟩) ∧ v12 = .pointer (some ⟨pi, 0, none⟩) ∧ v14 = .pointer (some ⟨pk, 0, none⟩) ∧ v16 = .pointer (some ⟨pz, 0, none⟩) ∧ v17 = .int .i64 0 ∧ v18 = .pointer (some ⟨p0, 0, none⟩) ∧ BlkIs wx pa 25 (· = #[.int .i64 f, .int .i64 1, .bool ng1, .slice Aa l1.length ca, .int .i64 ex1]) ∧ BlkIs wx pb 25 (· = #[.int .i64 f, .int .i64 2, .bool ng2, .slice Ab l2.length cb, .int .i64 ex2]) ∧ BlkIs wx pi 48 (· = #[.bool ni1, .slice Ai li1.length ci]) ∧ BlkIs wx pk 48 (· = #[.bool ni2, .slice Ak li2.length ck]) ∧ BlkIs wx pz 25 (· = #[.int .i64 f, .int .i64 clb, .bool ngb, .slice Az lb.length cz, .int .i64 exb]) ∧ BlkIs wx p0 25 (· = #[.int .i64 f, .int .i64 1, .bool true, .slice none 0 0, .int .i64 ex1]) ∧ Hid (Kd.C (Kd.int .u32) wx Aa l1.length l1 ∧ l1.length ≤ ca) ∧ Hid (Kd.C (Kd.int .u32) wx Ab l2.length l2 ∧ l2.length ≤ cb) ∧ Hid (Kd.C (Kd.int .u32) wx Ai li1.length li1 ∧ li1.length ≤ ci) ∧ Hid (Kd.C (Kd.int .u32) wx Ak li2.length li2 ∧ li2.length ≤ ck) ∧ Hid (Kd.C (Kd.int .u32) wx Az lb.length lb ∧ lb.length ≤ cz) ∧ Below w.heap.size w wx)
    case first =>
      go_wp2_with fail
      go_meet
      have hbka := HBah.out
      have hbkb := HBbh.out
      have hbki := HBih.out
      have hbkk := HBkh.out
      exact ⟨_, _, _, _, rfl, rfl, rfl, rfl, rfl, rfl, rfl, blk1, blk1, blk1, blk1, blk0, blk0, Lib.hid ⟨Kd.C_below HXa.out.1 bel, HXa.out.2⟩, Lib.hid ⟨Kd.C_below HXb.out.1 bel, HXb.out.2⟩, Lib.hid ⟨Kd.C_below HXi.out.1 bel, HXi.out.2⟩, Lib.hid ⟨Kd.C_below HXk.out.1 bel, HXk.out.2⟩, Lib.hid ⟨Kd.C_below HC8.out.1 bel, HC8.out.2⟩, bel⟩
    case rest =>
      clear HAt HBah HBbh HBih HBkh HXa HXb HXi HXk hbw a0 a1 a2 a3 a4 az b0 b1 b2 b3 b4 bz i0 i1 iz k0 k1 kz
      obtain ⟨pz, p0, Az, cz, rfl, rfl, rfl, rfl, rfl, rfl, rfl, HBa, HBb, HBi, HBk, HBz, HBo, HXa, HXb, HXi, HXk, HXz, hbw⟩ := hcut
      obtain ⟨csa, hbka, rfl⟩ := HBa
      have a0 : wc.cell? ⟨pa, 0, none⟩ = some (.int .i64 f) := by simpa using blk_cell hbka 0
      have a1 : wc.cell? ⟨pa, 1, none⟩ = some (.int .i64 1) := by simpa using blk_cell hbka 1
      have a2 : wc.cell? ⟨pa, 2, none⟩ = some (.bool ng1) := by simpa using blk_cell hbka 2
      have a3 : wc.cell? ⟨pa, 3, none⟩ = some (.slice Aa l1.length ca) := by simpa using blk_cell hbka 3
      have a4 : wc.cell? ⟨pa, 4, none⟩ = some (.int .i64 ex1) := by simpa using blk_cell hbka 4
      have az : pa < wc.heap.size := blk_lt hbka
      have HBah := Lib.hid hbka
      clear hbka
      obtain ⟨csb, hbkb, rfl⟩ := HBb
      have b0 : wc.cell? ⟨pb, 0, none⟩ = some (.int .i64 f) := by simpa using blk_cell hbkb 0
      have b1 : wc.cell? ⟨pb, 1, none⟩ = some (.int .i64 2) := by simpa using blk_cell hbkb 1
      have b2 : wc.cell? ⟨pb, 2, none⟩ = some (.bool ng2) := by simpa using blk_cell hbkb 2
      have b3 : wc.cell? ⟨pb, 3, none⟩ = some (.slice Ab l2.length cb) := by simpa using blk_cell hbkb 3
      have b4 : wc.cell? ⟨pb, 4, none⟩ = some (.int .i64 ex2) := by simpa using blk_cell hbkb 4
      have bz : pb < wc.heap.size := blk_lt hbkb
      have HBbh := Lib.hid hbkb
      clear hbkb
      obtain ⟨csi, hbki, rfl⟩ := HBi
      have i0 : wc.cell? ⟨pi, 0, none⟩ = some (.bool ni1) := by simpa using blk_cell hbki 0
      have i1 : wc.cell? ⟨pi, 1, none⟩ = some (.slice Ai li1.length ci) := by simpa using blk_cell hbki 1
      have iz : pi < wc.heap.size := blk_lt hbki
      have HBih := Lib.hid hbki
      clear hbki
      obtain ⟨csk, hbkk, rfl⟩ := HBk
      have k0 : wc.cell? ⟨pk, 0, none⟩ = some (.bool ni2) := by simpa using blk_cell hbkk 0
      have k1 : wc.cell? ⟨pk, 1, none⟩ = some (.slice Ak li2.length ck) := by simpa using blk_cell hbkk 1
      have kz : pk < wc.heap.size := blk_lt hbkk
      have HBkh := Lib.hid hbkk
      clear hbkk
      obtain ⟨csz, hbkz, rfl⟩ := HBz
      have z0 : wc.cell? ⟨pz, 0, none⟩ = some (.int .i64 f) := by simpa using blk_cell hbkz 0
      have z1 : wc.cell? ⟨pz, 1, none⟩ = some (.int .i64 clb) := by simpa using blk_cell hbkz 1
      have z2 : wc.cell? ⟨pz, 2, none⟩ = some (.bool ngb) := by simpa using blk_cell hbkz 2
      have z3 : wc.cell? ⟨pz, 3, none⟩ = some (.slice Az lb.length cz) := by simpa using blk_cell hbkz 3
      have z4 : wc.cell? ⟨pz, 4, none⟩ = some (.int .i64 exb) := by simpa using blk_cell hbkz 4
      have zz : pz < wc.heap.size := blk_lt hbkz
      have HBzh := Lib.hid hbkz
      clear hbkz
      obtain ⟨cso, hbko, rfl⟩ := HBo
      have o0 : wc.cell? ⟨p0, 0, none⟩ = some (.int .i64 f) := by simpa using blk_cell hbko 0
      have o1 : wc.cell? ⟨p0, 1, none⟩ = some (.int .i64 1) := by simpa using blk_cell hbko 1
      have o2 : wc.cell? ⟨p0, 2, none⟩ = some (.bool true) := by simpa using blk_cell hbko 2
      have o3 : wc.cell? ⟨p0, 3, none⟩ = some (.slice none 0 0) := by simpa using blk_cell hbko 3
      have o4 : wc.cell? ⟨p0, 4, none⟩ = some (.int .i64 ex1) := by simpa using blk_cell hbko 4
      have oz : p0 < wc.heap.size := blk_lt hbko
      have HBoh := Lib.hid hbko
      clear hbko
      go_wp2_with (first | fail | (go_at_call 19; (with_reducible refine (HSm.out _ _ _ _ _ (Kd.C_below HXz.out.1 bel) HXz.out.2 (Kd.C_below HXa.out.1 bel) HXa.out.2).mono ?_); rintro e w9 ⟨rfl, b9⟩; obtain ⟨hc9, hf9⟩ := bcell b9; have hz9 := below_size b9; (try simp at hz9); have zz9_0 : pa < w9.heap.size := (by omega); have zz9_1 : pb < w9.heap.size := (by omega); have zz9_2 : pi < w9.heap.size := (by omega); have zz9_3 : pk < w9.heap.size := (by omega); have zz9_4 : pz < w9.heap.size := (by omega); have zz9_5 : p0 < w9.heap.size := (by omega)) | (go_at_call 34; (with_reducible refine (HOI.out _ _ _ _ _ (Kd.C_below HXi.out.1 bel) HXi.out.2 (Kd.C_below HXk.out.1 bel) HXk.out.2).mono ?_); rintro e w10 ⟨rfl, b10⟩; obtain ⟨hc10, hf10⟩ := bcell b10; have hz10 := below_size b10; (try simp at hz10); have zz10_0 : pa < w10.heap.size := (by omega); have zz10_1 : pb < w10.heap.size := (by omega); have zz10_2 : pi < w10.heap.size := (by omega); have zz10_3 : pk < w10.heap.size := (by omega); have zz10_4 : pz < w10.heap.size := (by omega); have zz10_5 : p0 < w10.heap.size := (by omega)) | (go_at_call 30; (with_reducible refine (HV1.out _ _ _ (HT.out.below bel) (Kd.C_below HXa.out.1 bel) HXa.out.2).mono ?_); rintro e w11 ⟨v11, rfl, hv11, b11⟩; obtain ⟨A11, c11, rfl⟩ := Kd.R_slice hv11; have HC11 := Lib.hid (R_C hv11); clear hv11; obtain ⟨hc11, hf11⟩ := bcell b11; have hz11 := below_size b11; (try simp at hz11); have zz11_0 : pa < w11.heap.size := (by omega); have zz11_1 : pb < w11.heap.size := (by omega); have zz11_2 : pi < w11.heap.size := (by omega); have zz11_3 : pk < w11.heap.size := (by omega); have zz11_4 : pz < w11.heap.size := (by omega); have zz11_5 : p0 < w11.heap.size := (by omega)) | (go_at_call 30; (with_reducible refine (HV2.out _ _ _ (HT.out.below bel) (Kd.C_below HXb.out.1 bel) HXb.out.2).mono ?_); rintro e w12 ⟨v12, rfl, hv12, b12⟩; obtain ⟨A12, c12, rfl⟩ := Kd.R_slice hv12; have HC12 := Lib.hid (R_C hv12); clear hv12; obtain ⟨hc12, hf12⟩ := bcell b12; have hz12 := below_size b12; (try simp at hz12); have zz12_0 : pa < w12.heap.size := (by omega); have zz12_1 : pb < w12.heap.size := (by omega); have zz12_2 : pi < w12.heap.size := (by omega); have zz12_3 : pk < w12.heap.size := (by omega); have zz12_4 : pz < w12.heap.size := (by omega); have zz12_5 : p0 < w12.heap.size := (by omega); have zz12_6 : w11.heap.size < w12.heap.size := (by omega)) | (go_at_call 11; (with_reducible refine (HSa.out _ (HT.out.below bel)).mono ?_); rintro e w13 ⟨rfl, b13⟩; obtain ⟨hc13, hf13⟩ := bcell b13; have hz13 := below_size b13; (try simp at hz13); have zz13_0 : pa < w13.heap.size := (by omega); have zz13_1 : pb < w13.heap.size := (by omega); have zz13_2 : pi < w13.heap.size := (by omega); have zz13_3 : pk < w13.heap.size := (by omega); have zz13_4 : pz < w13.heap.size := (by omega); have zz13_5 : p0 < w13.heap.size := (by omega); have zz13_6 : w11.heap.size < w13.heap.size := (by omega); have zz13_7 : w12.heap.size < w13.heap.size := (by omega)))
      all_goals
        go_ret
        exact ⟨by simp [*], bel⟩
set_option maxHeartbeats 16000000 in
theorem ord_FIz {a0 f hi1 lo1 hi2 lo2 H1 L1 H2 L2 ex1 ex2 clb exb cc xe1 xe2 : Int} {ng1 ng2 ni1 ni2 nx1 nx2 : Bool} {l1 l2 li1 li2 lx1 lx2 : List Int} (w : World)
    (hT : Tab w)
    (HWh : Hid (∀ w', Calls Tryd.prog 21 #[.int .u8 a0] w' fun e w'' => e = .returned (.int .i64 f) ∧ Below w'.heap.size w' w''))
    (HC1 : Hid (∀ w', Calls Tryd.prog 22 #[.int .i64 f, .agg #[.int .u64 hi1, .int .u64 lo1]] w' fun e w'' => e = .returned (.agg #[.int .u64 H1, .int .u64 L1]) ∧ Below w'.heap.size w' w''))
    (HD1 : Hid (∀ w', Calls Tryd.prog 15 #[.int .i64 f, .agg #[.int .u64 H1, .int .u64 L1]] w' fun e w'' => ∃ v3 : Value, e = .returned (.tuple #[.agg #[.int .i64 f, .int .i64 1, .bool ng1, v3, .int .i64 ex1], .int .i64 0]) ∧ Kd.R (Kd.int .u32) 77 w'' w'.heap.size (fun _ => True) v3 l1 ∧ Below w'.heap.size w' w''))
    (HI1 : Hid (∀ A c w', Kd.C (Kd.int .u32) w' A l1.length l1 → l1.length ≤ c → Calls Tryd.prog 23 #[dV f 1 ng1 A l1.length c ex1] w' fun e w'' => ∃ v3 : Value, e = .returned (.tuple #[.agg #[.bool ni1, v3], .int .i64 0]) ∧ Kd.R (Kd.int .u32) 77 w'' w'.heap.size (fun _ => True) v3 li1 ∧ Below w'.heap.size w' w''))
    (HC2 : Hid (∀ w', Calls Tryd.prog 22 #[.int .i64 f, .agg #[.int .u64 hi2, .int .u64 lo2]] w' fun e w'' => e = .returned (.agg #[.int .u64 H2, .int .u64 L2]) ∧ Below w'.heap.size w' w''))
    (HD2 : Hid (∀ w', Calls Tryd.prog 15 #[.int .i64 f, .agg #[.int .u64 H2, .int .u64 L2]] w' fun e w'' => ∃ v3 : Value, e = .returned (.tuple #[.agg #[.int .i64 f, .int .i64 2, .bool ng2, v3, .int .i64 ex2], .int .i64 0]) ∧ Kd.R (Kd.int .u32) 77 w'' w'.heap.size (fun _ => True) v3 l2 ∧ Below w'.heap.size w' w''))
    (HI2 : Hid (∀ A c w', Kd.C (Kd.int .u32) w' A l2.length l2 → l2.length ≤ c → Calls Tryd.prog 23 #[dV f 2 ng2 A l2.length c ex2] w' fun e w'' => ∃ v3 : Value, e = .returned (.tuple #[.agg #[.bool ni2, v3], .int .i64 0]) ∧ Kd.R (Kd.int .u32) 77 w'' w'.heap.size (fun _ => True) v3 li2 ∧ Below w'.heap.size w' w''))
    (HSa : Hid (∀ w', Tab w' → Calls Tryd.prog 11 #[] w' fun e w'' => e = .returned (.bool true) ∧ Below w'.heap.size w' w''))
    (HAt : Hid (∀ A c w', Kd.C (Kd.int .u32) w' A li1.length li1 → li1.length ≤ c → Calls Tryd.prog 33 #[.int .i64 f, .agg #[.bool ni1, .slice A li1.length c]] w' fun e w'' => ∃ v3 : Value, e = .returned (.tuple #[.agg #[.int .i64 f, .int .i64 clb, .bool false, v3, .int .i64 exb], .int .i64 0]) ∧ Kd.R (Kd.int .u32) 77 w'' w'.heap.size (fun _ => True) v3 [] ∧ Below w'.heap.size w' w''))
    (HSm : Hid (∀ A c A' c' w', Kd.C (Kd.int .u32) w' A 0 [] → 0 ≤ c → Kd.C (Kd.int .u32) w' A' l1.length l1 → l1.length ≤ c' → Calls Tryd.prog 19 #[.agg #[.int .i64 f, .int .i64 clb, .bool false, .slice A 0 c, .int .i64 exb], .agg #[.int .i64 f, .int .i64 1, .bool ng1, .slice A' l1.length c', .int .i64 ex1]] w' fun e w'' => e = .returned (.bool false) ∧ Below w'.heap.size w' w''))
    (HSz : Hid (∀ A c w', Kd.C (Kd.int .u32) w' A l1.length l1 → l1.length ≤ c → Calls Tryd.prog 19 #[.agg #[.int .i64 f, .int .i64 1, .bool ng1, .slice A l1.length c, .int .i64 ex1], .agg #[.int .i64 f, .int .i64 1, .bool true, .slice none 0 0, .int .i64 ex1]] w' fun e w'' => e = .returned (.bool true) ∧ Below w'.heap.size w' w''))
    (HOI : Hid (∀ A c A' c' w', Kd.C (Kd.int .u32) w' A li1.length li1 → li1.length ≤ c → Kd.C (Kd.int .u32) w' A' li2.length li2 → li2.length ≤ c' → Calls Tryd.prog 34 #[.agg #[.bool ni1, .slice A li1.length c], .agg #[.bool ni2, .slice A' li2.length c']] w' fun e w'' => e = .returned (.int .i64 cc) ∧ Below w'.heap.size w' w''))
    (HV1 : Hid (∀ A c w', Tab w' → Kd.C (Kd.int .u32) w' A l1.length l1 → l1.length ≤ c → Calls Tryd.prog 30 #[dV f 1 ng1 A l1.length c ex1] w' fun e w'' => ∃ v3 : Value, e = .returned (.tuple #[.agg #[.bool nx1, v3, .int .i64 xe1], .int .i64 0]) ∧ Kd.R (Kd.int .u32) 77 w'' w'.heap.size (fun _ => True) v3 lx1 ∧ Below w'.heap.size w' w''))
    (HV2 : Hid (∀ A c w', Tab w' → Kd.C (Kd.int .u32) w' A l2.length l2 → l2.length ≤ c → Calls Tryd.prog 30 #[dV f 2 ng2 A l2.length c ex2] w' fun e w'' => ∃ v3 : Value, e = .returned (.tuple #[.agg #[.bool nx2, v3, .int .i64 xe2], .int .i64 5]) ∧ Kd.R (Kd.int .u32) 77 w'' w'.heap.size (fun _ => True) v3 lx2 ∧ Below w'.heap.size w' w''))
    (t1 : decide (cc > 0) = ng2) (t2 : (cc != 0) = true) :
    Calls Tryd.prog 8 #[.int .u8 a0, .agg #[.int .u64 hi1, .int .u64 lo1], .agg #[.int .u64 hi2, .int .u64 lo2]] w fun e w' => e = .returned (.bool true) ∧ Below w.heap.size w w' := by
  have HT := Lib.hid hT
  clear hT
  go_enter Tryd.func8, Tryd.ntmps8
  go_upto_region 5 with (first | fail | (go_at_call 21; (with_reducible refine (HWh.out _).mono ?_); rintro e w1 ⟨rfl, b1⟩; obtain ⟨hc1, hf1⟩ := bcell b1; have hz1 := below_size b1; (try simp at hz1); have zz1_0 : w.heap.size < w1.heap.size := (by omega); have zz1_1 : w.heap.size + 1 < w1.heap.size := (by omega)) | (go_at_call 22; (with_reducible refine (HC1.out _).mono ?_); rintro e w2 ⟨rfl, b2⟩; obtain ⟨hc2, hf2⟩ := bcell b2; have hz2 := below_size b2; (try simp at hz2); have zz2_0 : w.heap.size < w2.heap.size := (by omega); have zz2_1 : w.heap.size + 1 < w2.heap.size := (by omega)) | (go_at_call 15; (with_reducible refine (HD1.out _).mono ?_); rintro e w3 ⟨v3, rfl, hv3, b3⟩; obtain ⟨A3, c3, rfl⟩ := Kd.R_slice hv3; have HC3 := Lib.hid (R_C hv3); clear hv3; obtain ⟨hc3, hf3⟩ := bcell b3; have hz3 := below_size b3; (try simp at hz3); have zz3_0 : w.heap.size < w3.heap.size := (by omega); have zz3_1 : w.heap.size + 1 < w3.heap.size := (by omega)) | (go_at_call 22; (with_reducible refine (HC2.out _).mono ?_); rintro e w4 ⟨rfl, b4⟩; obtain ⟨hc4, hf4⟩ := bcell b4; have hz4 := below_size b4; (try simp at hz4); have zz4_0 : w.heap.size < w4.heap.size := (by omega); have zz4_1 : w.heap.size + 1 < w4.heap.size := (by omega); have zz4_2 : w3.heap.size < w4.heap.size := (by omega)) | (go_at_call 15; (with_reducible refine (HD2.out _).mono ?_); rintro e w5 ⟨v5, rfl, hv5, b5⟩; obtain ⟨A5, c5, rfl⟩ := Kd.R_slice hv5; have HC5 := Lib.hid (R_C hv5); clear hv5; obtain ⟨hc5, hf5⟩ := bcell b5; have hz5 := below_size b5; (try simp at hz5); have zz5_0 : w.heap.size < w5.heap.size := (by omega); have zz5_1 : w.heap.size + 1 < w5.heap.size := (by omega); have zz5_2 : w3.heap.size < w5.heap.size := (by omega)) | (go_at_call 23; (with_reducible refine (HI1.out _ _ _ (Kd.C_below HC3.out.1 bel) HC3.out.2).mono ?_); rintro e w6 ⟨v6, rfl, hv6, b6⟩; obtain ⟨A6, c6, rfl⟩ := Kd.R_slice hv6; have HC6 := Lib.hid (R_C hv6); clear hv6; obtain ⟨hc6, hf6⟩ := bcell b6; have hz6 := below_size b6; (try simp at hz6); have zz6_0 : w.heap.size < w6.heap.size := (by omega); have zz6_1 : w.heap.size + 1 < w6.heap.size := (by omega); have zz6_2 : w3.heap.size < w6.heap.size := (by omega); have zz6_3 : w5.heap.size < w6.heap.size := (by omega)))
  go_cut [7, 8, 10, 12, 13, 14, 15] (fun v7 v8 v10 v12 v13 v14 v15 wx => ∃ (pa pb pi pk : Nat) (Aa : Option Addr) (ca : Nat) (Ab : Option Addr) (cb : Nat) (Ai : Option Addr) (ci : Nat) (Ak : Option Addr) (ck : Nat), v7 = .int .i64 f ∧ v8 = .pointer (some ⟨pa, 0, none⟩) ∧ v10 = .pointer (some ⟨pb, 0, none⟩) ∧ v12 = .pointer (some ⟨pi, 0, none⟩) ∧ v13 = .int .i64 0 ∧ v14 = .pointer (some ⟨pk, 0, none⟩) ∧ v15 = .int .i64 0 ∧ BlkIs wx pa 25 (· = #[.int .i64 f, .int .i64 1, .bool ng1, .slice Aa l1.length ca, .int .i64 ex1]) ∧ BlkIs wx pb 25 (· = #[.int .i64 f, .int .i64 2, .bool ng2, .slice Ab l2.length cb, .int .i64 ex2]) ∧ BlkIs wx pi 48 (· = #[.bool ni1, .slice Ai li1.length ci]) ∧ BlkIs wx pk 48 (· = #[.bool ni2, .slice Ak li2.length ck]) ∧ Hid (Kd.C (Kd.int .u32) wx Aa l1.length l1 ∧ l1.length ≤ ca) ∧ Hid (Kd.C (Kd.int .u32) wx Ab l2.length l2 ∧ l2.length ≤ cb) ∧ Hid (Kd.C (Kd.int .u32) wx Ai li1.length li1 ∧ li1.length ≤ ci) ∧ Hid (Kd.C (Kd.int .u32) wx Ak li2.length li2 ∧ li2.length ≤ ck) ∧ Below w.heap.size w wx)
  case first =>
    go_wp2_with (first | fail | (go_at_call 23; (with_reducible refine (HI2.out _ _ _ (Kd.C_below HC5.out.1 bel) HC5.out.2).mono ?_); rintro e w7 ⟨v7, rfl, hv7, b7⟩; obtain ⟨A7, c7, rfl⟩ := Kd.R_slice hv7; have HC7 := Lib.hid (R_C hv7); clear hv7; obtain ⟨hc7, hf7⟩ := bcell b7; have hz7 := below_size b7; (try simp at hz7); have zz7_0 : w.heap.size < w7.heap.size := (by omega); have zz7_1 : w.heap.size + 1 < w7.heap.size := (by omega); have zz7_2 : w3.heap.size < w7.heap.size := (by omega); have zz7_3 : w5.heap.size < w7.heap.size := (by omega); have zz7_4 : w6.heap.size < w7.heap.size := (by omega)))
    go_meet
    exact ⟨_, _, _, _, _, _, _, _, _, _, _, _, rfl, rfl, rfl, rfl, rfl, rfl, rfl, blk0, blk0, blk0, blk0, Lib.hid ⟨Kd.C_below HC3.out.1 bel, HC3.out.2⟩, Lib.hid ⟨Kd.C_below HC5.out.1 bel, HC5.out.2⟩, Lib.hid ⟨Kd.C_below HC6.out.1 bel, HC6.out.2⟩, Lib.hid ⟨Kd.C_below HC7.out.1 bel, HC7.out.2⟩, bel⟩
  case rest =>
    clear HWh HC1 HC2 HD1 HD2 HI1 HI2
    obtain ⟨pa, pb, pi, pk, Aa, ca, Ab, cb, Ai, ci, Ak, ck, rfl, rfl, rfl, rfl, rfl, rfl, rfl, HBa, HBb, HBi, HBk, HXa, HXb, HXi, HXk, hbw⟩ := hcut
    obtain ⟨csa, hbka, rfl⟩ := HBa
    have a0 : wc.cell? ⟨pa, 0, none⟩ = some (.int .i64 f) := by simpa using blk_cell hbka 0
    have a1 : wc.cell? ⟨pa, 1, none⟩ = some (.int .i64 1) := by simpa using blk_cell hbka 1
    have a2 : wc.cell? ⟨pa, 2, none⟩ = some (.bool ng1) := by simpa using blk_cell hbka 2
    have a3 : wc.cell? ⟨pa, 3, none⟩ = some (.slice Aa l1.length ca) := by simpa using blk_cell hbka 3
    have a4 : wc.cell? ⟨pa, 4, none⟩ = some (.int .i64 ex1) := by simpa using blk_cell hbka 4
    have az : pa < wc.heap.size := blk_lt hbka
    have HBah := Lib.hid hbka
    clear hbka
    obtain ⟨csb, hbkb, rfl⟩ := HBb
    have b0 : wc.cell? ⟨pb, 0, none⟩ = some (.int .i64 f) := by simpa using blk_cell hbkb 0
    have b1 : wc.cell? ⟨pb, 1, none⟩ = some (.int .i64 2) := by simpa using blk_cell hbkb 1
    have b2 : wc.cell? ⟨pb, 2, none⟩ = some (.bool ng2) := by simpa using blk_cell hbkb 2
    have b3 : wc.cell? ⟨pb, 3, none⟩ = some (.slice Ab l2.length cb) := by simpa using blk_cell hbkb 3
    have b4 : wc.cell? ⟨pb, 4, none⟩ = some (.int .i64 ex2) := by simpa using blk_cell hbkb 4
    have bz : pb < wc.heap.size := blk_lt hbkb
    have HBbh := Lib.hid hbkb
    clear hbkb
    obtain ⟨csi, hbki, rfl⟩ := HBi
    have i0 : wc.cell? ⟨pi, 0, none⟩ = some (.bool ni1) := by simpa using blk_cell hbki 0
    have i1 : wc.cell? ⟨pi, 1, none⟩ = some (.slice Ai li1.length ci) := by simpa using blk_cell hbki 1
    have iz : pi < wc.heap.size := blk_lt hbki
    have HBih := Lib.hid hbki
    clear hbki
    obtain ⟨csk, hbkk, rfl⟩ := HBk
    have k0 : wc.cell? ⟨pk, 0, none⟩ = some (.bool ni2) := by simpa using blk_cell hbkk 0
    have k1 : wc.cell? ⟨pk, 1, none⟩ = some (.slice Ak li2.length ck) := by simpa using blk_cell hbkk 1
    have kz : pk < wc.heap.size := blk_lt hbkk
    have HBkh := Lib.hid hbkk
    clear hbkk
    go_upto_region 9 with (first | fail | (go_at_call 33; (with_reducible refine (HAt.out _ _ _ (Kd.C_below HXi.out.1 bel) HXi.out.2).mono ?_); rintro e w8 ⟨v8, rfl, hv8, b8⟩; obtain ⟨A8, c8, rfl⟩ := Kd.R_slice hv8; have HC8 := Lib.hid (R_C hv8); clear hv8; obtain ⟨hc8, hf8⟩ := bcell b8; have hz8 := below_size b8; (try simp at hz8); have zz8_0 : pa < w8.heap.size := (by omega); have zz8_1 : pb < w8.heap.size := (by omega); have zz8_2 : pi < w8.heap.size := (by omega); have zz8_3 : pk < w8.heap.size := (by omega)))
    go_cut [8, 10, 12, 14, 16, 17, 18] (fun v8 v10 v12 v14 v16 v17 v18 wx => ∃ (pz p0 : Nat) (Az : Option Addr) (cz : Nat), v8 = .pointer (some ⟨pa, 0, none⟩) ∧ v10 = .pointer (some ⟨pb, 0, none⟩) ∧ v12 = .pointer (some ⟨pi, 0, none⟩) ∧ v14 = .pointer (some ⟨pk, 0, none⟩) ∧ v16 = .pointer (some ⟨pz, 0, none⟩) ∧ v17 = .int .i64 0 ∧ v18 = .pointer (some ⟨p0, 0, none⟩) ∧ BlkIs wx pa 25 (· = #[.int .i64 f, .int .i64 1, .bool ng1, .slice Aa l1.length ca, .int .i64 ex1]) ∧ BlkIs wx pb 25 (· = #[.int .i64 f, .int .i64 2, .bool ng2, .slice Ab l2.length cb, .int .i64 ex2]) ∧ BlkIs wx pi 48 (· = #[.bool ni1, .slice Ai li1.length ci]) ∧ BlkIs wx pk 48 (· = #[.bool ni2, .slice Ak li2.length ck]) ∧ BlkIs wx pz 25 (· = #[.int .i64 f, .int .i64 clb, .bool false, .slice Az 0 cz, .int .i64 exb]) ∧ BlkIs wx p0 25 (· = #[.int .i64 f, .int .i64 1, .bool true, .slice none 0 0, .int .i64 ex1]) ∧ Hid (Kd.C (Kd.int .u32) wx Aa l1.length l1 ∧ l1.length ≤ ca) ∧ Hid (Kd.C (Kd.int .u32) wx Ab l2.length l2 ∧ l2.length ≤ cb) ∧ Hid (Kd.C (Kd.int .u32) wx Ai li1.length li1 ∧ li1.length ≤ ci) ∧ Hid (Kd.C (Kd.int .u32) wx Ak li2.length li2 ∧ li2.length ≤ ck) ∧ Hid (Kd.C (Kd.int .u32) wx Az 0 [] ∧ 0 ≤ cz) ∧ Below w.heap.size w wx)
    case first =>
      go_wp2_with fail
      go_meet
      have hbka := HBah.out
      have hbkb := HBbh.out
      have hbki := HBih.out
      have hbkk := HBkh.out
      exact ⟨_, _, _, _, rfl, rfl, rfl, rfl, rfl, rfl, rfl, blk1, blk1, blk1, blk1, blk0, blk0, Lib.hid ⟨Kd.C_below HXa.out.1 bel, HXa.out.2⟩, Lib.hid ⟨Kd.C_below HXb.out.1 bel, HXb.out.2⟩, Lib.hid ⟨Kd.C_below HXi.out.1 bel, HXi.out.2⟩, Lib.hid ⟨Kd.C_below HXk.out.1 bel, HXk.out.2⟩, Lib.hid ⟨Kd.C_below HC8.out.1 bel, HC8.out.2⟩, bel⟩
    case rest =>
      clear HAt HBah HBbh HBih HBkh HXa HXb HXi HXk hbw a0 a1 a2 a3 a4 az b0 b1 b2 b3 b4 bz i0 i1 iz k0 k1 kz
      obtain ⟨pz, p0, Az, cz, rfl, rfl, rfl, rfl, rfl, rfl, rfl, HBa, HBb, HBi, HBk, HBz, HBo, HXa, HXb, HXi, HXk, HXz, hbw⟩ := hcut
      obtain ⟨csa, hbka, rfl⟩ := HBa
      have a0 : wc.cell? ⟨pa, 0, none⟩ = some (.int .i64 f) := by simpa using blk_cell hbka 0
      have a1 : wc.cell? ⟨pa, 1, none⟩ = some (.int .i64 1) := by simpa using blk_cell hbka 1
      have a2 : wc.cell? ⟨pa, 2, none⟩ = some (.bool ng1) := by simpa using blk_cell hbka 2
      have a3 : wc.cell? ⟨pa, 3, none⟩ = some (.slice Aa l1.length ca) := by simpa using blk_cell hbka 3
      have a4 : wc.cell? ⟨pa, 4, none⟩ = some (.int .i64 ex1) := by simpa using blk_cell hbka 4
      have az : pa < wc.heap.size := blk_lt hbka
      have HBah := Lib.hid hbka
      clear hbka
      obtain ⟨csb, hbkb, rfl⟩ := HBb
      have b0 : wc.cell? ⟨pb, 0, none⟩ = some (.int .i64 f) := by simpa using blk_cell hbkb 0
      have b1 : wc.cell? ⟨pb, 1, none⟩ = some (.int .i64 2) := by simpa using blk_cell hbkb 1
      have b2 : wc.cell? ⟨pb, 2, none⟩ = some (.bool ng2) := by simpa using blk_cell hbkb 2
      have b3 : wc.cell? ⟨pb, 3, none⟩ = some (.slice Ab l2.length cb) := by simpa using blk_cell hbkb 3
      have b4 : wc.cell? ⟨pb, 4, none⟩ = some (.int .i64 ex2) := by simpa using blk_cell hbkb 4
      have bz : pb < wc.heap.size := blk_lt hbkb
      have HBbh := Lib.hid hbkb
      clear hbkb
      obtain ⟨csi, hbki, rfl⟩ := HBi
      have i0 : wc.cell? ⟨pi, 0, none⟩ = some (.bool ni1) := by simpa using blk_cell hbki 0
      have i1 : wc.cell? ⟨pi, 1, none⟩ = some (.slice Ai li1.length ci) := by simpa using blk_cell hbki 1
      have iz : pi < wc.heap.size := blk_lt hbki
      have HBih := Lib.hid hbki
      clear hbki
      obtain ⟨csk, hbkk, rfl⟩ := HBk
      have k0 : wc.cell? ⟨pk, 0, none⟩ = some (.bool ni2) := by simpa using blk_cell hbkk 0
      have k1 : wc.cell? ⟨pk, 1, none⟩ = some (.slice Ak li2.length ck) := by simpa using blk_cell hbkk 1
      have kz : pk < wc.heap.size := blk_lt hbkk
      have HBkh := Lib.hid hbkk
      clear hbkk
      obtain ⟨csz, hbkz, rfl⟩ := HBz
      have z0 : wc.cell? ⟨pz, 0, none⟩ = some (.int .i64 f) := by simpa using blk_cell hbkz 0
      have z1 : wc.cell? ⟨pz, 1, none⟩ = some (.int .i64 clb) := by simpa using blk_cell hbkz 1
      have z2 : wc.cell? ⟨pz, 2, none⟩ = some (.bool false) := by simpa using blk_cell hbkz 2
      have z3 : wc.cell? ⟨pz, 3, none⟩ = some (.slice Az 0 cz) := by simpa using blk_cell hbkz 3
      have z4 : wc.cell? ⟨pz, 4, none⟩ = some (.int .i64 exb) := by simpa using blk_cell hbkz 4
      have zz : pz < wc.heap.size := blk_lt hbkz
      have HBzh := Lib.hid hbkz
      clear hbkz
      obtain ⟨cso, hbko, rfl⟩ := HBo
      have o0 : wc.cell? ⟨p0, 0, none⟩ = some (.int .i64 f) := by simpa using blk_cell hbko 0
      have o1 : wc.cell? ⟨p0, 1, none⟩ = some (.int .i64 1) := by simpa using blk_cell hbko 1
      have o2 : wc.cell? ⟨p0, 2, none⟩ = some (.bool true) := by simpa using blk_cell hbko 2
      have o3 : wc.cell? ⟨p0, 3, none⟩ = some (.slice none 0 0) := by simpa using blk_cell hbko 3
      have o4 : wc.cell? ⟨p0, 4, none⟩ = some (.int .i64 ex1) := by simpa using blk_cell hbko 4
      have oz : p0 < wc.heap.size := blk_lt hbko
      have HBoh := Lib.hid hbko
      clear hbko
      go_wp2_with (first | fail | (go_at_call 19; (with_reducible refine (HSm.out _ _ _ _ _ (Kd.C_below HXz.out.1 bel) HXz.out.2 (Kd.C_below HXa.out.1 bel) HXa.out.2).mono ?_); rintro e w9 ⟨rfl, b9⟩; obtain ⟨hc9, hf9⟩ := bcell b9; have hz9 := below_size b9; (try simp at hz9); have zz9_0 : pa < w9.heap.size := (by omega); have zz9_1 : pb < w9.heap.size := (by omega); have zz9_2 : pi < w9.heap.size := (by omega); have zz9_3 : pk < w9.heap.size := (by omega); have zz9_4 : pz < w9.heap.size := (by omega); have zz9_5 : p0 < w9.heap.size := (by omega)) | (go_at_call 19; (with_reducible refine (HSz.out _ _ _ (Kd.C_below HXa.out.1 bel) HXa.out.2).mono ?_); rintro e w10 ⟨rfl, b10⟩; obtain ⟨hc10, hf10⟩ := bcell b10; have hz10 := below_size b10; (try simp at hz10); have zz10_0 : pa < w10.heap.size := (by omega); have zz10_1 : pb < w10.heap.size := (by omega); have zz10_2 : pi < w10.heap.size := (by omega); have zz10_3 : pk < w10.heap.size := (by omega); have zz10_4 : pz < w10.heap.size := (by omega); have zz10_5 : p0 < w10.heap.size := (by omega)) | (go_at_call 34; (with_reducible refine (HOI.out _ _ _ _ _ (Kd.C_below HXi.out.1 bel) HXi.out.2 (Kd.C_below HXk.out.1 bel) HXk.out.2).mono ?_); rintro e w11 ⟨rfl, b11⟩; obtain ⟨hc11, hf11⟩ := bcell b11; have hz11 := below_size b11; (try simp at hz11); have zz11_0 : pa < w11.heap.size := (by omega); have zz11_1 : pb < w11.heap.size := (by omega); have zz11_2 : pi < w11.heap.size := (by omega); have zz11_3 : pk < w11.heap.size := (by omega); have zz11_4 : pz < w11.heap.size := (by omega); have zz11_5 : p0 < w11.heap.size := (by omega)) | (go_at_call 30; (with_reducible refine (HV1.out _ _ _ (HT.out.below bel) (Kd.C_below HXa.out.1 bel) HXa.out.2).mono ?_); rintro e w12 ⟨v12, rfl, hv12, b12⟩; obtain ⟨A12, c12, rfl⟩ := Kd.R_slice hv12; have HC12 := Lib.hid (R_C hv12); clear hv12; obtain ⟨hc12, hf12⟩ := bcell b12; have hz12 := below_size b12; (try simp at hz12); have zz12_0 : pa < w12.heap.size := (by omega); have zz12_1 : pb < w12.heap.size := (by omega); have zz12_2 : pi < w12.heap.size := (by omega); have zz12_3 : pk < w12.heap.size := (by omega); have zz12_4 : pz < w12.heap.size := (by omega); have zz12_5 : p0 < w12.heap.size := (by omega)) | (go_at_call 30; (with_reducible refine (HV2.out _ _ _ (HT.out.below bel) (Kd.C_below HXb.out.1 bel) HXb.out.2).mono ?_); rintro e w13 ⟨v13, rfl, hv13, b13⟩; obtain ⟨A13, c13, rfl⟩ := Kd.R_slice hv13; have HC13 := Lib.hid (R_C hv13); clear hv13; obtain ⟨hc13, hf13⟩ := bcell b13; have hz13 := below_size b13; (try simp at hz13); have zz13_0 : pa < w13.heap.size := (by omega); have zz13_1 : pb < w13.heap.size := (by omega); have zz13_2 : pi < w13.heap.size := (by omega); have zz13_3 : pk < w13.heap.size := (by omega); have zz13_4 : pz < w13.heap.size := (by omega); have zz13_5 : p0 < w13.heap.size := (by omega); have zz13_6 : w12.heap.size < w13.heap.size := (by omega)) | (go_at_call 11; (with_reducible refine (HSa.out _ (HT.out.below bel)).mono ?_); rintro e w14 ⟨rfl, b14⟩; obtain ⟨hc14, hf14⟩ := bcell b14; have hz14 := below_size b14; (try simp at hz14); have zz14_0 : pa < w14.heap.size := (by omega); have zz14_1 : pb < w14.heap.size := (by omega); have zz14_2 : pi < w14.heap.size := (by omega); have zz14_3 : pk < w14.heap.size := (by omega); have zz14_4 : pz < w14.heap.size := (by omega); have zz14_5 : p0 < w14.heap.size := (by omega); have zz14_6 : w12.heap.size < w14.heap.size := (by omega); have zz14_7 : w13.heap.size < w14.heap.size := (by omega)))
      all_goals
        go_ret
        exact ⟨by simp [*], bel⟩
end Go.Proofs.YtacnkcojhlbkoaaDoor
