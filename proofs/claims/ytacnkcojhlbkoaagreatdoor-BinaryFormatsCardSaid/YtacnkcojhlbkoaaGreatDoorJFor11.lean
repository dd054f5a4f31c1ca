/- The law BinaryFormats: its walk where there is a format. Written by this session's own program (wip/tools/xprint.sh) for the law Same: what the law's functions compute, and that the machine does so, given the contracts of the program's functions. -/
import Derived.Test.YtacnkcojhlbkoaaGreatDoorJFor10
import Derived.Test.YtacnkcojhlbkoaaGreatDoorProg
import Derived.Below
import Derived.Deep.Draws
import Derived.Deep.AppendLies
import Derived.Maps.AppendAt
import Derived.OwnWalk
import Derived.Laws.BytesArg
import Derived.Laws.MakeOwn
import Derived.Laws.OwnMore
import Derived.Deep.OwnRows
import Derived.Tactics
import Derived.Lib.ConvBytes
import Derived.Laws.Slices
import Derived.WalkKit
import Derived.KernelRfl
import Derived.RowKit3
import Derived.Deep.LoopGhost
import Derived.Deep.QuietTactic
import Derived.BigQuiet
import Derived.WideLaws
import Derived.Deep.DeepCutAuto
import Derived.Deep.CutBlock
import Derived.Deep.RegionHeld3
import Derived.Laws.Rows
import Derived.Lib.AppendStr
import Derived.ArgAppend
import Derived.Laws.IdiomCopy
import Derived.OrdersHeld
import Derived.Laws.BitsLemmas
import Derived.RowKit
import Derived.Test.YtacnkcojhlbkoaaGreatDoorJFor0
import Derived.Test.YtacnkcojhlbkoaaGreatDoorJFor1
import Derived.Test.YtacnkcojhlbkoaaGreatDoorJFor2
set_option linter.unusedSimpArgs false
set_option linter.unusedVariables false
set_option linter.unnecessarySimpa false
namespace Go.Proofs.YtacnkcojhlbkoaaGreatDoor
open Go.RowKit Go.Proofs.YtacnkcojhlbkoaaGreatDoorW.PrintWords Go.Proofs.YtacnkcojhlbkoaaGreatDoorW.PrintLast Go.Proofs.YtacnkcojhlbkoaaGreatDoorW.PrintMore Go.Proofs.YtacnkcojhlbkoaaGreatDoor.NL
set_option maxRecDepth 100000
set_option exponentiation.threshold 33000

set_option maxHeartbeats 16000000 in
theorem forms_fm {n f cl ex g cm ey er D E L H W q1 q2 q3 q4 e2 e4 : Int} {ng mg v s : Bool} {A B : Option Addr} {c d : Nat} {l m x1 x2 x3 x4 : List Int} (w : World)
    (hA : Kd.C (Kd.int .u32) w A l.length l) (hAc : l.length ≤ c) (hB : Kd.C (Kd.int .u32) w B m.length m) (hBc : m.length ≤ d) (hli : light2 l m = some true) (hT : Tab w)
    (HSa : Hid (∀ w', Tab w' → Calls Tryz.prog 6 #[] w' fun e w'' => e = .returned (.bool true) ∧ Below w'.heap.size w' w''))
    (HVa : Hid (∀ w', Kd.C (Kd.int .u32) w' A l.length l → Calls Tryz.prog 7 #[dV f cl ng A l.length c ex] w' fun e w'' => e = .returned (.bool v) ∧ Below w'.heap.size w' w''))
    (HCh : Hid (∀ w', Kd.C (Kd.int .u32) w' A l.length l → Calls Tryz.prog 8 #[dV f cl ng A l.length c ex] w' fun e w'' => e = .returned (.int .i64 er) ∧ Below w'.heap.size w' w''))
    (hv : v = true ∧ er = 0 ∨ v = false ∧ er = 1)
    (HBs : Hid (∀ w', Kd.C (Kd.int .u32) w' A l.length l → Kd.C (Kd.int .u32) w' B m.length m → Calls Tryz.prog 9 #[dV f cl ng A l.length c ex, dV g cm mg B m.length d ey] w' fun e w'' => e = .returned (.bool s) ∧ Below w'.heap.size w' w''))
    (HRs : Hid (∀ w', Kd.C (Kd.int .u32) w' A l.length l → Kd.C (Kd.int .u32) w' B m.length m → Calls Tryz.prog 10 #[dV f cl ng A l.length c ex, dV g cm mg B m.length d ey] w' fun e w'' => e = .returned (.bool s) ∧ Below w'.heap.size w' w''))
    (HBt : Hid (∀ w', Kd.C (Kd.int .u32) w' A l.length l → Calls Tryz.prog 9 #[dV f cl ng A l.length c ex, dV f cl ng A l.length c ex] w' fun e w'' => e = .returned (.bool true) ∧ Below w'.heap.size w' w''))
    (HIF : Hid (∀ w', Calls Tryz.prog 16 #[.int .i64 n] w' fun e w'' => e = .returned (.bool true) ∧ Below w'.heap.size w' w''))
    (HF : Hid (∀ w', Calls Tryz.prog 11 #[.int .i64 n] w' fun e w'' => e = .returned (.tuple #[.agg #[.int .i64 D, .int .i64 E, .int .i64 L, .int .i64 H, .int .i64 W], .int .i64 0]) ∧ Below w'.heap.size w' w''))
    (HN1 : Hid (∀ w', Tab w' → Calls Tryz.prog 12 #[.int .i64 n] w' (DatumE n 1 false x1 q1 0 w')))
    (HN2 : Hid (∀ w', Tab w' → Calls Tryz.prog 13 #[.int .i64 n] w' (DatumE n 1 false x2 q2 0 w')))
    (HN3 : Hid (∀ w', Tab w' → Calls Tryz.prog 14 #[.int .i64 n] w' (DatumE n 1 false x3 q3 0 w')))
    (HN4 : Hid (∀ w', Tab w' → Calls Tryz.prog 15 #[.int .i64 n] w' (DatumE n 1 false x4 q4 0 w')))
    (HRF : Hid (∀ w', Calls Tryz.prog 17 #[.int .i64 n] w' fun e w'' => e = .returned (.agg #[.int .i64 D, .int .i64 E, .int .i64 L, .int .i64 H, .int .i64 W]) ∧ Below w'.heap.size w' w''))
    (hE2 : wrap64 (wrap64 (L + D) - 1) = e2) (hE4 : wrap64 (1 - D) = e4) (hE2b : IntKind.i64.wrap (wrap64 (L + D) - 1) = e2) (hE2c : IntKind.i64.wrap (IntKind.i64.wrap (L + D) - 1) = e2) (hE4b : IntKind.i64.wrap (1 - D) = e4)
    (HM1 : Hid (∀ A w', Kd.C (Kd.int .u32) w' A 1 [1] → Calls Tryz.prog 19 #[.int .i64 n, .bool false, .slice A 1 1, .int .i64 L] w' fun e w'' => ∃ v, e = .returned (.agg #[.int .i64 n, .int .i64 1, .bool false, v, .int .i64 q1, .bool true]) ∧ Kd.R (Kd.int .u32) 40 w'' w'.heap.size (fun _ => True) v x1 ∧ Below w'.heap.size w' w''))
    (HM2 : Hid (∀ A w', Kd.C (Kd.int .u32) w' A 1 [1] → Calls Tryz.prog 19 #[.int .i64 n, .bool false, .slice A 1 1, .int .i64 e2] w' fun e w'' => ∃ v, e = .returned (.agg #[.int .i64 n, .int .i64 1, .bool false, v, .int .i64 q2, .bool true]) ∧ Kd.R (Kd.int .u32) 40 w'' w'.heap.size (fun _ => True) v x2 ∧ Below w'.heap.size w' w''))
    (HM4 : Hid (∀ A w', Kd.C (Kd.int .u32) w' A 1 [1] → Calls Tryz.prog 19 #[.int .i64 n, .bool false, .slice A 1 1, .int .i64 e4] w' fun e w'' => ∃ v, e = .returned (.agg #[.int .i64 n, .int .i64 1, .bool false, v, .int .i64 q4, .bool true]) ∧ Kd.R (Kd.int .u32) 40 w'' w'.heap.size (fun _ => True) v x4 ∧ Below w'.heap.size w' w''))
    (HG : Hid (∀ w', Calls Tryz.prog 20 #[.int .i64 n] w' (DatumP n 1 false x3 q3 w')))
    (HI1 : Hid (∀ A c A' c' w', Kd.C (Kd.int .u32) w' A x1.length x1 → x1.length ≤ c → Kd.C (Kd.int .u32) w' A' x1.length x1 → x1.length ≤ c' → Calls Tryz.prog 18 #[.agg #[.int .i64 n, .int .i64 1, .bool false, .slice A x1.length c, .int .i64 q1], .int .i64 0, .agg #[.int .i64 n, .int .i64 1, .bool false, .slice A' x1.length c', .int .i64 q1, .bool true], .int .i64 0] w' fun e w'' => e = .returned (.bool true) ∧ Below w'.heap.size w' w''))
    (HI2 : Hid (∀ A c A' c' w', Kd.C (Kd.int .u32) w' A x2.length x2 → x2.length ≤ c → Kd.C (Kd.int .u32) w' A' x2.length x2 → x2.length ≤ c' → Calls Tryz.prog 18 #[.agg #[.int .i64 n, .int .i64 1, .bool false, .slice A x2.length c, .int .i64 q2], .int .i64 0, .agg #[.int .i64 n, .int .i64 1, .bool false, .slice A' x2.length c', .int .i64 q2, .bool true], .int .i64 0] w' fun e w'' => e = .returned (.bool true) ∧ Below w'.heap.size w' w''))
    (HI3 : Hid (∀ A c A' c' w', Kd.C (Kd.int .u32) w' A x3.length x3 → x3.length ≤ c → Kd.C (Kd.int .u32) w' A' x3.length x3 → x3.length ≤ c' → Calls Tryz.prog 18 #[.agg #[.int .i64 n, .int .i64 1, .bool false, .slice A x3.length c, .int .i64 q3], .int .i64 0, .agg #[.int .i64 n, .int .i64 1, .bool false, .slice A' x3.length c', .int .i64 q3, .bool true], .int .i64 0] w' fun e w'' => e = .returned (.bool true) ∧ Below w'.heap.size w' w''))
    (HI4 : Hid (∀ A c A' c' w', Kd.C (Kd.int .u32) w' A x4.length x4 → x4.length ≤ c → Kd.C (Kd.int .u32) w' A' x4.length x4 → x4.length ≤ c' → Calls Tryz.prog 18 #[.agg #[.int .i64 n, .int .i64 1, .bool false, .slice A x4.length c, .int .i64 q4], .int .i64 0, .agg #[.int .i64 n, .int .i64 1, .bool false, .slice A' x4.length c', .int .i64 q4, .bool true], .int .i64 0] w' fun e w'' => e = .returned (.bool true) ∧ Below w'.heap.size w' w'')) :
    Calls Tryz.prog 3 #[.int .i64 n, dV f cl ng A l.length c ex, dV g cm mg B m.length d ey] w fun e w' => e = .returned (.bool true) ∧ Below w.heap.size w w' := by
  have HC0 := Lib.hid hA
  have HD0 := Lib.hid hB
  have HLI := Lib.hid hli
  have HT := Lib.hid hT
  clear hA hB hli hT
  go_enter Tryz.func3, Tryz.ntmps3
  rcases hv with ⟨rfl, rfl⟩ | ⟨rfl, rfl⟩
  all_goals
    go_wp2_with (first | fail | (go_at_call 5; (with_reducible refine (light_two_at _ _ _ (by first | rfl | (simp; done)) HLI.out).mono ?_); rintro e w1 ⟨rfl, b1⟩; obtain ⟨hc1, hf1⟩ := bcell b1; have hz1 := below_size b1; (try simp at hz1); have zz1_0 : w.heap.size < w1.heap.size := (by omega); have zz1_1 : w.heap.size + 1 < w1.heap.size := (by omega)) | (go_at_call 7; (with_reducible refine (HVa.out _ (Kd.C_below HC0.out bel)).mono ?_); rintro e w2 ⟨rfl, b2⟩; obtain ⟨hc2, hf2⟩ := bcell b2; have hz2 := below_size b2; (try simp at hz2); have zz2_0 : w.heap.size < w2.heap.size := (by omega); have zz2_1 : w.heap.size + 1 < w2.heap.size := (by omega)))
    go_region_held3 (fun w' => Below (w2).heap.size (w2) w' ∧ ∀ b o, b < (w2).heap.size → w'.cell? ⟨b, o, none⟩ = (w2).cell? ⟨b, o, none⟩) (first | ((try go_split_ands); refine below_S ?_; ((repeat (first | with_reducible assumption | with_reducible exact Below.refl _ _ | with_reducible refine below_alloc ?_ _ | with_reducible refine pw_below_drewN ?_ _ | with_reducible refine below_drew1 ?_ | ((with_reducible refine below_set ?_ ?hle); (case hle => first | (simp; done) | omega | (simp; omega))) | with_reducible refine below_step ?_ (by with_reducible assumption))); done))) (first | (go_at_call 8; (with_reducible refine (HCh.out _ (Kd.C_below HC0.out bel)).mono ?_); rintro e w3 ⟨rfl, b3⟩; obtain ⟨hc3, hf3⟩ := bcell b3; (try simp only [dr_size, dr_cell] at hc3); (try simp only [dr_size, dr_frozen] at hf3); have hz3 := below_size b3; (try simp at hz3); have zz3_0 : w.heap.size < w3.heap.size := (by omega); have zz3_1 : w.heap.size + 1 < w3.heap.size := (by omega)) | (go_at_call 9; (with_reducible refine (HBs.out _ (Kd.C_below HC0.out bel) (Kd.C_below HD0.out bel)).mono ?_); rintro e w4 ⟨rfl, b4⟩; obtain ⟨hc4, hf4⟩ := bcell b4; (try simp only [dr_size, dr_cell] at hc4); (try simp only [dr_size, dr_frozen] at hf4); have hz4 := below_size b4; (try simp at hz4); have zz4_0 : w.heap.size < w4.heap.size := (by omega); have zz4_1 : w.heap.size + 1 < w4.heap.size := (by omega)) | (go_at_call 10; (with_reducible refine (HRs.out _ (Kd.C_below HC0.out bel) (Kd.C_below HD0.out bel)).mono ?_); rintro e w5 ⟨rfl, b5⟩; obtain ⟨hc5, hf5⟩ := bcell b5; (try simp only [dr_size, dr_cell] at hc5); (try simp only [dr_size, dr_frozen] at hf5); have hz5 := below_size b5; (try simp at hz5); have zz5_0 : w.heap.size < w5.heap.size := (by omega); have zz5_1 : w.heap.size + 1 < w5.heap.size := (by omega)) | (go_at_call 9; (with_reducible refine (HBt.out _ (Kd.C_below HC0.out bel)).mono ?_); rintro e w6 ⟨rfl, b6⟩; obtain ⟨hc6, hf6⟩ := bcell b6; (try simp only [dr_size, dr_cell] at hc6); (try simp only [dr_size, dr_frozen] at hf6); have hz6 := below_size b6; (try simp at hz6); have zz6_0 : w.heap.size < w6.heap.size := (by omega); have zz6_1 : w.heap.size + 1 < w6.heap.size := (by omega)))
    all_goals
      go_upto_region 12 with (first | fail | (go_at_call 11; (with_reducible refine (HF.out _).mono ?_); rintro e w7 ⟨rfl, b7⟩; obtain ⟨hc7, hf7⟩ := bcell b7; have hz7 := below_size b7; (try simp at hz7)) | (go_at_call 12; (with_reducible refine (HN1.out _ (HT.out.below bel)).mono ?_); rintro e w8 ⟨v8, rfl, hv8, b8⟩; obtain ⟨A8, c8, rfl⟩ := Kd.R_slice hv8; have HC8 := Lib.hid (R_C hv8); clear hv8; obtain ⟨hc8, hf8⟩ := bcell b8; have hz8 := below_size b8; (try simp at hz8); have zz8_0 : w7.heap.size < w8.heap.size := (by omega)) | (go_at_call 13; (with_reducible refine (HN2.out _ (HT.out.below bel)).mono ?_); rintro e w9 ⟨v9, rfl, hv9, b9⟩; obtain ⟨A9, c9, rfl⟩ := Kd.R_slice hv9; have HC9 := Lib.hid (R_C hv9); clear hv9; obtain ⟨hc9, hf9⟩ := bcell b9; have hz9 := below_size b9; (try simp at hz9); have zz9_0 : w7.heap.size < w9.heap.size := (by omega); have zz9_1 : w8.heap.size < w9.heap.size := (by omega)) | (go_at_call 14; (with_reducible refine (HN3.out _ (HT.out.below bel)).mono ?_); rintro e w10 ⟨v10, rfl, hv10, b10⟩; obtain ⟨A10, c10, rfl⟩ := Kd.R_slice hv10; have HC10 := Lib.hid (R_C hv10); clear hv10; obtain ⟨hc10, hf10⟩ := bcell b10; have hz10 := below_size b10; (try simp at hz10); have zz10_0 : w7.heap.size < w10.heap.size := (by omega); have zz10_1 : w8.heap.size < w10.heap.size := (by omega); have zz10_2 : w9.heap.size < w10.heap.size := (by omega)) | (go_at_call 15; (with_reducible refine (HN4.out _ (HT.out.below bel)).mono ?_); rintro e w11 ⟨v11, rfl, hv11, b11⟩; obtain ⟨A11, c11, rfl⟩ := Kd.R_slice hv11; have HC11 := Lib.hid (R_C hv11); clear hv11; obtain ⟨hc11, hf11⟩ := bcell b11; have hz11 := below_size b11; (try simp at hz11); have zz11_0 : w7.heap.size < w11.heap.size := (by omega); have zz11_1 : w8.heap.size < w11.heap.size := (by omega); have zz11_2 : w9.heap.size < w11.heap.size := (by omega); have zz11_3 : w10.heap.size < w11.heap.size := (by omega)))
      go_cut [8, 9, 10, 11, 12, 13, 14, 15, 16, 17] (fun v8 v9 v10 v11 v12 v13 v14 v15 v16 v17 wx => ∃ (p p1 p2 p3 p4 : Nat) (A1 A2 A3 A4 : Option Addr) (c1 c2 c3 c4 : Nat), v8 = .pointer (some ⟨p, 0, none⟩) ∧ v9 = .int .i64 0 ∧ BlkIs wx p 33 (· = #[.int .i64 D, .int .i64 E, .int .i64 L, .int .i64 H, .int .i64 W]) ∧ v10 = .pointer (some ⟨p1, 0, none⟩) ∧ v11 = .int .i64 0 ∧ BlkIs wx p1 25 (· = #[.int .i64 n, .int .i64 1, .bool false, .slice A1 x1.length c1, .int .i64 q1]) ∧ Hid (Kd.C (Kd.int .u32) wx A1 x1.length x1 ∧ x1.length ≤ c1) ∧ v12 = .pointer (some ⟨p2, 0, none⟩) ∧ v13 = .int .i64 0 ∧ BlkIs wx p2 25 (· = #[.int .i64 n, .int .i64 1, .bool false, .slice A2 x2.length c2, .int .i64 q2]) ∧ Hid (Kd.C (Kd.int .u32) wx A2 x2.length x2 ∧ x2.length ≤ c2) ∧ v14 = .pointer (some ⟨p3, 0, none⟩) ∧ v15 = .int .i64 0 ∧ BlkIs wx p3 25 (· = #[.int .i64 n, .int .i64 1, .bool false, .slice A3 x3.length c3, .int .i64 q3]) ∧ Hid (Kd.C (Kd.int .u32) wx A3 x3.length x3 ∧ x3.length ≤ c3) ∧ v16 = .pointer (some ⟨p4, 0, none⟩) ∧ v17 = .int .i64 0 ∧ BlkIs wx p4 25 (· = #[.int .i64 n, .int .i64 1, .bool false, .slice A4 x4.length c4, .int .i64 q4]) ∧ Hid (Kd.C (Kd.int .u32) wx A4 x4.length x4 ∧ x4.length ≤ c4) ∧ Below w.heap.size w wx)
      case first =>
        go_wp2_with (first | fail | (go_at_call 11; (with_reducible refine (HF.out _).mono ?_); rintro e w7 ⟨rfl, b7⟩; obtain ⟨hc7, hf7⟩ := bcell b7; have hz7 := below_size b7; (try simp at hz7)) | (go_at_call 12; (with_reducible refine (HN1.out _ (HT.out.below bel)).mono ?_); rintro e w8 ⟨v8, rfl, hv8, b8⟩; obtain ⟨A8, c8, rfl⟩ := Kd.R_slice hv8; have HC8 := Lib.hid (R_C hv8); clear hv8; obtain ⟨hc8, hf8⟩ := bcell b8; have hz8 := below_size b8; (try simp at hz8); have zz8_0 : w7.heap.size < w8.heap.size := (by omega)) | (go_at_call 13; (with_reducible refine (HN2.out _ (HT.out.below bel)).mono ?_); rintro e w9 ⟨v9, rfl, hv9, b9⟩; obtain ⟨A9, c9, rfl⟩ := Kd.R_slice hv9; have HC9 := Lib.hid (R_C hv9); clear hv9; obtain ⟨hc9, hf9⟩ := bcell b9; have hz9 := below_size b9; (try simp at hz9); have zz9_0 : w7.heap.size < w9.heap.size := (by omega); have zz9_1 : w8.heap.size < w9.heap.size := (by omega)) | (go_at_call 14; (with_reducible refine (HN3.out _ (HT.out.below bel)).mono ?_); rintro e w10 ⟨v10, rfl, hv10, b10⟩; obtain ⟨A10, c10, rfl⟩ := Kd.R_slice hv10; have HC10 := Lib.hid (R_C hv10); clear hv10; obtain ⟨hc10, hf10⟩ := bcell b10; have hz10 := below_size b10; (try simp at hz10); have zz10_0 : w7.heap.size < w10.heap.size := (by omega); have zz10_1 : w8.heap.size < w10.heap.size := (by omega); have zz10_2 : w9.heap.size < w10.heap.size := (by omega)) | (go_at_call 15; (with_reducible refine (HN4.out _ (HT.out.below bel)).mono ?_); rintro e w11 ⟨v11, rfl, hv11, b11⟩; obtain ⟨A11, c11, rfl⟩ := Kd.R_slice hv11; have HC11 := Lib.hid (R_C hv11); clear hv11; obtain ⟨hc11, hf11⟩ := bcell b11; have hz11 := below_size b11; (try simp at hz11); have zz11_0 : w7.heap.size < w11.heap.size := (by omega); have zz11_1 : w8.heap.size < w11.heap.size := (by omega); have zz11_2 : w9.heap.size < w11.heap.size := (by omega); have zz11_3 : w10.heap.size < w11.heap.size := (by omega)))
        go_meet
        exact ⟨_, _, _, _, _, _, _, _, _, _, _, _, _, rfl, rfl, blk0, rfl, rfl, blk0, Lib.hid ⟨Kd.C_below HC8.out.1 bel, HC8.out.2⟩, rfl, rfl, blk0, Lib.hid ⟨Kd.C_below HC9.out.1 bel, HC9.out.2⟩, rfl, rfl, blk0, Lib.hid ⟨Kd.C_below HC10.out.1 bel, HC10.out.2⟩, rfl, rfl, blk0, Lib.hid ⟨Kd.C_below HC11.out.1 bel, HC11.out.2⟩, bel⟩
      case rest =>
        skip
        obtain ⟨p, p1, p2, p3, p4, A1, A2, A3, A4, c1, c2, c3, c4, rfl, rfl, HB8, rfl, rfl, HB1, HX1, rfl, rfl, HB2, HX2, rfl, rfl, HB3, HX3, rfl, rfl, HB4, HX4, hbw⟩ := hcut
        obtain ⟨cs8, hbk8, rfl⟩ := HB8
        obtain ⟨cs1, hbk1, rfl⟩ := HB1
        obtain ⟨cs2, hbk2, rfl⟩ := HB2
        obtain ⟨cs3, hbk3, rfl⟩ := HB3
        obtain ⟨cs4, hbk4, rfl⟩ := HB4
        have r0 : wc.cell? ⟨p, 0, none⟩ = some (.int .i64 D) := by simpa using blk_cell hbk8 0
        have r1 : wc.cell? ⟨p, 1, none⟩ = some (.int .i64 E) := by simpa using blk_cell hbk8 1
        have r2 : wc.cell? ⟨p, 2, none⟩ = some (.int .i64 L) := by simpa using blk_cell hbk8 2
        have r3 : wc.cell? ⟨p, 3, none⟩ = some (.int .i64 H) := by simpa using blk_cell hbk8 3
        have r4 : wc.cell? ⟨p, 4, none⟩ = some (.int .i64 W) := by simpa using blk_cell hbk8 4
        have rz : p < wc.heap.size := blk_lt hbk8
        have s1_0 : wc.cell? ⟨p1, 0, none⟩ = some (.int .i64 n) := by simpa using blk_cell hbk1 0
        have s1_1 : wc.cell? ⟨p1, 1, none⟩ = some (.int .i64 1) := by simpa using blk_cell hbk1 1
        have s1_2 : wc.cell? ⟨p1, 2, none⟩ = some (.bool false) := by simpa using blk_cell hbk1 2
        have s1_3 : wc.cell? ⟨p1, 3, none⟩ = some (.slice A1 x1.length c1) := by simpa using blk_cell hbk1 3
        have s1_4 : wc.cell? ⟨p1, 4, none⟩ = some (.int .i64 q1) := by simpa using blk_cell hbk1 4
        have s1_z : p1 < wc.heap.size := blk_lt hbk1
        have s2_0 : wc.cell? ⟨p2, 0, none⟩ = some (.int .i64 n) := by simpa using blk_cell hbk2 0
        have s2_1 : wc.cell? ⟨p2, 1, none⟩ = some (.int .i64 1) := by simpa using blk_cell hbk2 1
        have s2_2 : wc.cell? ⟨p2, 2, none⟩ = some (.bool false) := by simpa using blk_cell hbk2 2
        have s2_3 : wc.cell? ⟨p2, 3, none⟩ = some (.slice A2 x2.length c2) := by simpa using blk_cell hbk2 3
        have s2_4 : wc.cell? ⟨p2, 4, none⟩ = some (.int .i64 q2) := by simpa using blk_cell hbk2 4
        have s2_z : p2 < wc.heap.size := blk_lt hbk2
        have s3_0 : wc.cell? ⟨p3, 0, none⟩ = some (.int .i64 n) := by simpa using blk_cell hbk3 0
        have s3_1 : wc.cell? ⟨p3, 1, none⟩ = some (.int .i64 1) := by simpa using blk_cell hbk3 1
        have s3_2 : wc.cell? ⟨p3, 2, none⟩ = some (.bool false) := by simpa using blk_cell hbk3 2
        have s3_3 : wc.cell? ⟨p3, 3, none⟩ = some (.slice A3 x3.length c3) := by simpa using blk_cell hbk3 3
        have s3_4 : wc.cell? ⟨p3, 4, none⟩ = some (.int .i64 q3) := by simpa using blk_cell hbk3 4
        have s3_z : p3 < wc.heap.size := blk_lt hbk3
        have s4_0 : wc.cell? ⟨p4, 0, none⟩ = some (.int .i64 n) := by simpa using blk_cell hbk4 0
        have s4_1 : wc.cell? ⟨p4, 1, none⟩ = some (.int .i64 1) := by simpa using blk_cell hbk4 1
        have s4_2 : wc.cell? ⟨p4, 2, none⟩ = some (.bool false) := by simpa using blk_cell hbk4 2
        have s4_3 : wc.cell? ⟨p4, 3, none⟩ = some (.slice A4 x4.length c4) := by simpa using blk_cell hbk4 3
        have s4_4 : wc.cell? ⟨p4, 4, none⟩ = some (.int .i64 q4) := by simpa using blk_cell hbk4 4
        have s4_z : p4 < wc.heap.size := blk_lt hbk4
        go_upto_region 17 with (first | fail | (go_at_call 16; (with_reducible refine (HIF.out _).mono ?_); rintro e w21 ⟨rfl, b21⟩; obtain ⟨hc21, hf21⟩ := bcell b21; have hz21 := below_size b21; (try simp at hz21); have zz21_0 : p < w21.heap.size := (by omega); have zz21_1 : p1 < w21.heap.size := (by omega); have zz21_2 : p2 < w21.heap.size := (by omega); have zz21_3 : p3 < w21.heap.size := (by omega); have zz21_4 : p4 < w21.heap.size := (by omega)) | (go_at_call 17; (with_reducible refine (HRF.out _).mono ?_); rintro e w22 ⟨rfl, b22⟩; obtain ⟨hc22, hf22⟩ := bcell b22; have hz22 := below_size b22; (try simp at hz22); have zz22_0 : p < w22.heap.size := (by omega); have zz22_1 : p1 < w22.heap.size := (by omega); have zz22_2 : p2 < w22.heap.size := (by omega); have zz22_3 : p3 < w22.heap.size := (by omega); have zz22_4 : p4 < w22.heap.size := (by omega)))
        go_cut [8, 9, 10, 11, 12, 13, 14, 15, 16, 17, 19, 20] (fun v8 v9 v10 v11 v12 v13 v14 v15 v16 v17 v19 v20 wx => ∃ (p p1 p2 p3 p4 p5 p6 : Nat) (A1 A2 A3 A4 : Option Addr) (c1 c2 c3 c4 : Nat), v8 = .pointer (some ⟨p, 0, none⟩) ∧ v9 = .int .i64 0 ∧ BlkIs wx p 33 (· = #[.int .i64 D, .int .i64 E, .int .i64 L, .int .i64 H, .int .i64 W]) ∧ v10 = .pointer (some ⟨p1, 0, none⟩) ∧ v11 = .int .i64 0 ∧ BlkIs wx p1 25 (· = #[.int .i64 n, .int .i64 1, .bool false, .slice A1 x1.length c1, .int .i64 q1]) ∧ Hid (Kd.C (Kd.int .u32) wx A1 x1.length x1 ∧ x1.length ≤ c1) ∧ v12 = .pointer (some ⟨p2, 0, none⟩) ∧ v13 = .int .i64 0 ∧ BlkIs wx p2 25 (· = #[.int .i64 n, .int .i64 1, .bool false, .slice A2 x2.length c2, .int .i64 q2]) ∧ Hid (Kd.C (Kd.int .u32) wx A2 x2.length x2 ∧ x2.length ≤ c2) ∧ v14 = .pointer (some ⟨p3, 0, none⟩) ∧ v15 = .int .i64 0 ∧ BlkIs wx p3 25 (· = #[.int .i64 n, .int .i64 1, .bool false, .slice A3 x3.length c3, .int .i64 q3]) ∧ Hid (Kd.C (Kd.int .u32) wx A3 x3.length x3 ∧ x3.length ≤ c3) ∧ v16 = .pointer (some ⟨p4, 0, none⟩) ∧ v17 = .int .i64 0 ∧ BlkIs wx p4 25 (· = #[.int .i64 n, .int .i64 1, .bool false, .slice A4 x4.length c4, .int .i64 q4]) ∧ Hid (Kd.C (Kd.int .u32) wx A4 x4.length x4 ∧ x4.length ≤ c4) ∧ v19 = .pointer (some ⟨p5, 0, none⟩) ∧ BlkIs wx p5 33 (· = #[.int .i64 D, .int .i64 E, .int .i64 L, .int .i64 H, .int .i64 W]) ∧ v20 = .slice (some ⟨p6, 0, none⟩) 1 1 ∧ Hid (Kd.C (Kd.int .u32) wx (some ⟨p6, 0, none⟩) 1 [1]) ∧ Below w.heap.size w wx)
        case first =>
          go_wp2_with (first | fail | (go_at_call 16; (with_reducible refine (HIF.out _).mono ?_); rintro e w21 ⟨rfl, b21⟩; obtain ⟨hc21, hf21⟩ := bcell b21; have hz21 := below_size b21; (try simp at hz21); have zz21_0 : p < w21.heap.size := (by omega); have zz21_1 : p1 < w21.heap.size := (by omega); have zz21_2 : p2 < w21.heap.size := (by omega); have zz21_3 : p3 < w21.heap.size := (by omega); have zz21_4 : p4 < w21.heap.size := (by omega)) | (go_at_call 17; (with_reducible refine (HRF.out _).mono ?_); rintro e w22 ⟨rfl, b22⟩; obtain ⟨hc22, hf22⟩ := bcell b22; have hz22 := below_size b22; (try simp at hz22); have zz22_0 : p < w22.heap.size := (by omega); have zz22_1 : p1 < w22.heap.size := (by omega); have zz22_2 : p2 < w22.heap.size := (by omega); have zz22_3 : p3 < w22.heap.size := (by omega); have zz22_4 : p4 < w22.heap.size := (by omega)))
          go_meet
          exact ⟨_, _, _, _, _, _, _, _, _, _, _, _, _, _, _, rfl, rfl, blk1, rfl, rfl, blk1, Lib.hid ⟨Kd.C_below HX1.out.1 bel, HX1.out.2⟩, rfl, rfl, blk1, Lib.hid ⟨Kd.C_below HX2.out.1 bel, HX2.out.2⟩, rfl, rfl, blk1, Lib.hid ⟨Kd.C_below HX3.out.1 bel, HX3.out.2⟩, rfl, rfl, blk1, Lib.hid ⟨Kd.C_below HX4.out.1 bel, HX4.out.2⟩, rfl, blk1, rfl, Lib.hid (R_C (oneR_at _ _ 0 (by first | rfl | (simp; done)) (Nat.zero_le _))).1, bel⟩
        case rest =>
          skip
          clear r0 r1 r2 r3 r4 rz s1_0 s1_1 s1_2 s1_3 s1_4 s1_z s2_0 s2_1 s2_2 s2_3 s2_4 s2_z s3_0 s3_1 s3_2 s3_3 s3_4 s3_z s4_0 s4_1 s4_2 s4_3 s4_4 s4_z hbk8 hbk1 hbk2 hbk3 hbk4
          obtain ⟨p, p1, p2, p3, p4, p5, p6, A1, A2, A3, A4, c1, c2, c3, c4, rfl, rfl, HB8, rfl, rfl, HB1, HX1, rfl, rfl, HB2, HX2, rfl, rfl, HB3, HX3, rfl, rfl, HB4, HX4, rfl, HB5, rfl, HO, hbw⟩ := hcut
          obtain ⟨cs8, hbk8, rfl⟩ := HB8
          obtain ⟨cs1, hbk1, rfl⟩ := HB1
          obtain ⟨cs2, hbk2, rfl⟩ := HB2
          obtain ⟨cs3, hbk3, rfl⟩ := HB3
          obtain ⟨cs4, hbk4, rfl⟩ := HB4
          obtain ⟨cs5, hbk5, rfl⟩ := HB5
          have r0 : wc.cell? ⟨p, 0, none⟩ = some (.int .i64 D) := by simpa using blk_cell hbk8 0
          have r1 : wc.cell? ⟨p, 1, none⟩ = some (.int .i64 E) := by simpa using blk_cell hbk8 1
          have r2 : wc.cell? ⟨p, 2, none⟩ = some (.int .i64 L) := by simpa using blk_cell hbk8 2
          have r3 : wc.cell? ⟨p, 3, none⟩ = some (.int .i64 H) := by simpa using blk_cell hbk8 3
          have r4 : wc.cell? ⟨p, 4, none⟩ = some (.int .i64 W) := by simpa using blk_cell hbk8 4
          have rz : p < wc.heap.size := blk_lt hbk8
          have s1_0 : wc.cell? ⟨p1, 0, none⟩ = some (.int .i64 n) := by simpa using blk_cell hbk1 0
          have s1_1 : wc.cell? ⟨p1, 1, none⟩ = some (.int .i64 1) := by simpa using blk_cell hbk1 1
          have s1_2 : wc.cell? ⟨p1, 2, none⟩ = some (.bool false) := by simpa using blk_cell hbk1 2
          have s1_3 : wc.cell? ⟨p1, 3, none⟩ = some (.slice A1 x1.length c1) := by simpa using blk_cell hbk1 3
          have s1_4 : wc.cell? ⟨p1, 4, none⟩ = some (.int .i64 q1) := by simpa using blk_cell hbk1 4
          have s1_z : p1 < wc.heap.size := blk_lt hbk1
          have s2_0 : wc.cell? ⟨p2, 0, none⟩ = some (.int .i64 n) := by simpa using blk_cell hbk2 0
          have s2_1 : wc.cell? ⟨p2, 1, none⟩ = some (.int .i64 1) := by simpa using blk_cell hbk2 1
          have s2_2 : wc.cell? ⟨p2, 2, none⟩ = some (.bool false) := by simpa using blk_cell hbk2 2
          have s2_3 : wc.cell? ⟨p2, 3, none⟩ = some (.slice A2 x2.length c2) := by simpa using blk_cell hbk2 3
          have s2_4 : wc.cell? ⟨p2, 4, none⟩ = some (.int .i64 q2) := by simpa using blk_cell hbk2 4
          have s2_z : p2 < wc.heap.size := blk_lt hbk2
          have s3_0 : wc.cell? ⟨p3, 0, none⟩ = some (.int .i64 n) := by simpa using blk_cell hbk3 0
          have s3_1 : wc.cell? ⟨p3, 1, none⟩ = some (.int .i64 1) := by simpa using blk_cell hbk3 1
          have s3_2 : wc.cell? ⟨p3, 2, none⟩ = some (.bool false) := by simpa using blk_cell hbk3 2
          have s3_3 : wc.cell? ⟨p3, 3, none⟩ = some (.slice A3 x3.length c3) := by simpa using blk_cell hbk3 3
          have s3_4 : wc.cell? ⟨p3, 4, none⟩ = some (.int .i64 q3) := by simpa using blk_cell hbk3 4
          have s3_z : p3 < wc.heap.size := blk_lt hbk3
          have s4_0 : wc.cell? ⟨p4, 0, none⟩ = some (.int .i64 n) := by simpa using blk_cell hbk4 0
          have s4_1 : wc.cell? ⟨p4, 1, none⟩ = some (.int .i64 1) := by simpa using blk_cell hbk4 1
          have s4_2 : wc.cell? ⟨p4, 2, none⟩ = some (.bool false) := by simpa using blk_cell hbk4 2
          have s4_3 : wc.cell? ⟨p4, 3, none⟩ = some (.slice A4 x4.length c4) := by simpa using blk_cell hbk4 3
          have s4_4 : wc.cell? ⟨p4, 4, none⟩ = some (.int .i64 q4) := by simpa using blk_cell hbk4 4
          have s4_z : p4 < wc.heap.size := blk_lt hbk4
          have t0 : wc.cell? ⟨p5, 0, none⟩ = some (.int .i64 D) := by simpa using blk_cell hbk5 0
          have t1 : wc.cell? ⟨p5, 1, none⟩ = some (.int .i64 E) := by simpa using blk_cell hbk5 1
          have t2 : wc.cell? ⟨p5, 2, none⟩ = some (.int .i64 L) := by simpa using blk_cell hbk5 2
          have t3 : wc.cell? ⟨p5, 3, none⟩ = some (.int .i64 H) := by simpa using blk_cell hbk5 3
          have t4 : wc.cell? ⟨p5, 4, none⟩ = some (.int .i64 W) := by simpa using blk_cell hbk5 4
          have tz : p5 < wc.heap.size := blk_lt hbk5
          clear hbk8 hbk1 hbk2 hbk3 hbk4 hbk5
          have hEq := fun d w => eqBF d w D D E E L L H H W W
          go_wp2_with fail
          go_region_held3 (fun w' => Below (wc).heap.size (wc) w' ∧ ∀ b o, b < (wc).heap.size → w'.cell? ⟨b, o, none⟩ = (wc).cell? ⟨b, o, none⟩) (first | ((try go_split_ands); refine below_S ?_; ((repeat (first | with_reducible assumption | with_reducible exact Below.refl _ _ | with_reducible refine below_alloc ?_ _ | with_reducible refine pw_below_drewN ?_ _ | with_reducible refine below_drew1 ?_ | ((with_reducible refine below_set ?_ ?hle); (case hle => first | (simp; done) | omega | (simp; omega))) | with_reducible refine below_step ?_ (by with_reducible assumption))); done))) (first | (go_at_call 6; (with_reducible refine (HSa.out _ (HT.out.below bel)).mono ?_); rintro e w23 ⟨rfl, b23⟩; obtain ⟨hc23, hf23⟩ := bcell b23; (try simp only [dr_size, dr_cell] at hc23); (try simp only [dr_size, dr_frozen] at hf23); have hz23 := below_size b23; (try simp at hz23); have zz23_0 : p < w23.heap.size := (by omega); have zz23_1 : p1 < w23.heap.size := (by omega); have zz23_2 : p2 < w23.heap.size := (by omega); have zz23_3 : p3 < w23.heap.size := (by omega); have zz23_4 : p4 < w23.heap.size := (by omega); have zz23_5 : p5 < w23.heap.size := (by omega)) | (go_at_call 19; (try rw [hE2c]); (try rw [hE2b]); (try rw [hE2]); (try rw [hE4b]); (try rw [hE4]); (with_reducible refine (HM1.out _ _ (Kd.C_below HO.out bel)).mono ?_); rintro e w24 ⟨v24, rfl, hv24, b24⟩; obtain ⟨A24, c24, rfl⟩ := Kd.R_slice hv24; have HC24 := Lib.hid (R_C hv24); clear hv24; obtain ⟨hc24, hf24⟩ := bcell b24; (try simp only [dr_size, dr_cell] at hc24); (try simp only [dr_size, dr_frozen] at hf24); have hz24 := below_size b24; (try simp at hz24); have zz24_0 : p < w24.heap.size := (by omega); have zz24_1 : p1 < w24.heap.size := (by omega); have zz24_2 : p2 < w24.heap.size := (by omega); have zz24_3 : p3 < w24.heap.size := (by omega); have zz24_4 : p4 < w24.heap.size := (by omega); have zz24_5 : p5 < w24.heap.size := (by omega)) | (go_at_call 18; (with_reducible refine (HI1.out _ _ _ _ _ (Kd.C_below HX1.out.1 bel) HX1.out.2 (Kd.C_below HC24.out.1 bel) HC24.out.2).mono ?_); rintro e w25 ⟨rfl, b25⟩; obtain ⟨hc25, hf25⟩ := bcell b25; (try simp only [dr_size, dr_cell] at hc25); (try simp only [dr_size, dr_frozen] at hf25); have hz25 := below_size b25; (try simp at hz25); have zz25_0 : p < w25.heap.size := (by omega); have zz25_1 : p1 < w25.heap.size := (by omega); have zz25_2 : p2 < w25.heap.size := (by omega); have zz25_3 : p3 < w25.heap.size := (by omega); have zz25_4 : p4 < w25.heap.size := (by omega); have zz25_5 : p5 < w25.heap.size := (by omega)) | (go_at_call 19; (try rw [hE2c]); (try rw [hE2b]); (try rw [hE2]); (try rw [hE4b]); (try rw [hE4]); (with_reducible refine (HM2.out _ _ (Kd.C_below HO.out bel)).mono ?_); rintro e w26 ⟨v26, rfl, hv26, b26⟩; obtain ⟨A26, c26, rfl⟩ := Kd.R_slice hv26; have HC26 := Lib.hid (R_C hv26); clear hv26; obtain ⟨hc26, hf26⟩ := bcell b26; (try simp only [dr_size, dr_cell] at hc26); (try simp only [dr_size, dr_frozen] at hf26); have hz26 := below_size b26; (try simp at hz26); have zz26_0 : p < w26.heap.size := (by omega); have zz26_1 : p1 < w26.heap.size := (by omega); have zz26_2 : p2 < w26.heap.size := (by omega); have zz26_3 : p3 < w26.heap.size := (by omega); have zz26_4 : p4 < w26.heap.size := (by omega); have zz26_5 : p5 < w26.heap.size := (by omega)) | (go_at_call 18; (with_reducible refine (HI2.out _ _ _ _ _ (Kd.C_below HX2.out.1 bel) HX2.out.2 (Kd.C_below HC26.out.1 bel) HC26.out.2).mono ?_); rintro e w27 ⟨rfl, b27⟩; obtain ⟨hc27, hf27⟩ := bcell b27; (try simp only [dr_size, dr_cell] at hc27); (try simp only [dr_size, dr_frozen] at hf27); have hz27 := below_size b27; (try simp at hz27); have zz27_0 : p < w27.heap.size := (by omega); have zz27_1 : p1 < w27.heap.size := (by omega); have zz27_2 : p2 < w27.heap.size := (by omega); have zz27_3 : p3 < w27.heap.size := (by omega); have zz27_4 : p4 < w27.heap.size := (by omega); have zz27_5 : p5 < w27.heap.size := (by omega)) | (go_at_call 20; (with_reducible refine (HG.out _).mono ?_); rintro e w28 ⟨v28, rfl, hv28, b28⟩; obtain ⟨A28, c28, rfl⟩ := Kd.R_slice hv28; have HC28 := Lib.hid (R_C hv28); clear hv28; obtain ⟨hc28, hf28⟩ := bcell b28; (try simp only [dr_size, dr_cell] at hc28); (try simp only [dr_size, dr_frozen] at hf28); have hz28 := below_size b28; (try simp at hz28); have zz28_0 : p < w28.heap.size := (by omega); have zz28_1 : p1 < w28.heap.size := (by omega); have zz28_2 : p2 < w28.heap.size := (by omega); have zz28_3 : p3 < w28.heap.size := (by omega); have zz28_4 : p4 < w28.heap.size := (by omega); have zz28_5 : p5 < w28.heap.size := (by omega)) | (go_at_call 18; (with_reducible refine (HI3.out _ _ _ _ _ (Kd.C_below HX3.out.1 bel) HX3.out.2 (Kd.C_below HC28.out.1 bel) HC28.out.2).mono ?_); rintro e w29 ⟨rfl, b29⟩; obtain ⟨hc29, hf29⟩ := bcell b29; (try simp only [dr_size, dr_cell] at hc29); (try simp only [dr_size, dr_frozen] at hf29); have hz29 := below_size b29; (try simp at hz29); have zz29_0 : p < w29.heap.size := (by omega); have zz29_1 : p1 < w29.heap.size := (by omega); have zz29_2 : p2 < w29.heap.size := (by omega); have zz29_3 : p3 < w29.heap.size := (by omega); have zz29_4 : p4 < w29.heap.size := (by omega); have zz29_5 : p5 < w29.heap.size := (by omega)) | (go_at_call 19; (try rw [hE2c]); (try rw [hE2b]); (try rw [hE2]); (try rw [hE4b]); (try rw [hE4]); (with_reducible refine (HM4.out _ _ (Kd.C_below HO.out bel)).mono ?_); rintro e w30 ⟨v30, rfl, hv30, b30⟩; obtain ⟨A30, c30, rfl⟩ := Kd.R_slice hv30; have HC30 := Lib.hid (R_C hv30); clear hv30; obtain ⟨hc30, hf30⟩ := bcell b30; (try simp only [dr_size, dr_cell] at hc30); (try simp only [dr_size, dr_frozen] at hf30); have hz30 := below_size b30; (try simp at hz30); have zz30_0 : p < w30.heap.size := (by omega); have zz30_1 : p1 < w30.heap.size := (by omega); have zz30_2 : p2 < w30.heap.size := (by omega); have zz30_3 : p3 < w30.heap.size := (by omega); have zz30_4 : p4 < w30.heap.size := (by omega); have zz30_5 : p5 < w30.heap.size := (by omega)) | (go_at_call 18; (with_reducible refine (HI4.out _ _ _ _ _ (Kd.C_below HX4.out.1 bel) HX4.out.2 (Kd.C_below HC30.out.1 bel) HC30.out.2).mono ?_); rintro e w31 ⟨rfl, b31⟩; obtain ⟨hc31, hf31⟩ := bcell b31; (try simp only [dr_size, dr_cell] at hc31); (try simp only [dr_size, dr_frozen] at hf31); have hz31 := below_size b31; (try simp at hz31); have zz31_0 : p < w31.heap.size := (by omega); have zz31_1 : p1 < w31.heap.size := (by omega); have zz31_2 : p2 < w31.heap.size := (by omega); have zz31_3 : p3 < w31.heap.size := (by omega); have zz31_4 : p4 < w31.heap.size := (by omega); have zz31_5 : p5 < w31.heap.size := (by omega)))
          all_goals
            go_wp2_with fail
            go_ret
            exact ⟨by simp, bel⟩
end Go.Proofs.YtacnkcojhlbkoaaGreatDoor

namespace Go.Proofs.YtacnkcojhlbkoaaGreatDoor.XSame
open Go.RowKit Go.Proofs.YtacnkcojhlbkoaaGreatDoorW.PrintWords Go.Proofs.YtacnkcojhlbkoaaGreatDoorW.PrintLast Go.Proofs.YtacnkcojhlbkoaaGreatDoorW.PrintMore
attribute [local go_sem] max2_int min2_int max_two min_two max_three min_three max_four min_four   -- for this text's walks alone
set_option linter.unusedVariables false
set_option linter.unusedSimpArgs false

def errW : Option Int → Value
  | none => .nilIface
  | some c => .iface 0 (.int .i64 c)
theorem errW_none : errW none = .nilIface := rfl
theorem errW_some (c : Int) : errW (some c) = .iface 0 (.int .i64 c) := rfl

-- the values' own types

end Go.Proofs.YtacnkcojhlbkoaaGreatDoor.XSame
