/- The specification's At: its walk in three cases. Written by this session's own program (wip/tools/xprint.sh) for the law Sdy: what the law's functions compute, and that the machine does so, given the contracts of the program's functions. Written by this session's own program (wip/tools/xprint.sh) for the law Sdy: what the law's functions compute, and that the machine does so, given the contracts of the program's functions. Written by this session's own program (wip/tools/xprint.sh) for the law Isb: what the law's functions compute, and that the machine does so, given the contracts of the program's functions. -/
import Derived.Test.YtacnkcojhlbkoaaGreatDoorJVal25
import Derived.Test.YtacnkcojhlbkoaaGreatDoorJVal10
import Derived.Test.YtacnkcojhlbkoaaGreatDoorProg
import Derived.Below
import Derived.Deep.Draws
import Derived.Deep.AppendLies
import Derived.Maps.AppendAt
import Derived.OwnWalk
import Derived.Laws.BytesArg
import Derived.Laws.MakeOwn
import Derived.Laws.OwnMore
import Derived.Deep.OwnRows
import Derived.Tactics
import Derived.Lib.ConvBytes
import Derived.Laws.Slices
import Derived.WalkKit
import Derived.KernelRfl
import Derived.RowKit3
import Derived.Deep.LoopGhost
import Derived.Deep.QuietTactic
import Derived.BigQuiet
import Derived.WideLaws
import Derived.Deep.DeepCutAuto
import Derived.Deep.CutBlock
import Derived.Deep.RegionHeld3
import Derived.Laws.Rows
import Derived.Lib.AppendStr
import Derived.ArgAppend
import Derived.Laws.IdiomCopy
import Derived.OrdersHeld
import Derived.Laws.BitsLemmas
import Derived.RowKit
import Derived.Test.YtacnkcojhlbkoaaGreatDoorJVal18
import Derived.Test.YtacnkcojhlbkoaaGreatDoorJVal17
import Derived.Test.YtacnkcojhlbkoaaGreatDoorJVal0
import Derived.Test.YtacnkcojhlbkoaaGreatDoorJVal1
import Derived.Test.YtacnkcojhlbkoaaGreatDoorJVal2
set_option linter.unusedSimpArgs false
set_option linter.unusedVariables false
set_option linter.unnecessarySimpa false
namespace Go.Proofs.YtacnkcojhlbkoaaGreatDoor
open Go.RowKit Go.Proofs.YtacnkcojhlbkoaaGreatDoorW.PrintWords Go.Proofs.YtacnkcojhlbkoaaGreatDoorW.PrintLast Go.Proofs.YtacnkcojhlbkoaaGreatDoorW.PrintMore Go.Proofs.YtacnkcojhlbkoaaGreatDoor.NL
set_option maxRecDepth 100000
set_option exponentiation.threshold 33000

set_option maxHeartbeats 8000000 in
theorem rat_gt {n D E L H W cv : Int} {ni : Bool} {B : Option Addr} {d P : Nat} {m : List Int} (w : World)
    (hB : Kd.C (Kd.int .u32) w B m.length m) (hBc : m.length ≤ d)
    (HF : Hid (∀ w', Calls Tryz.prog 17 #[.int .i64 n] w' fun e w'' => e = .returned (.agg #[.int .i64 D, .int .i64 E, .int .i64 L, .int .i64 H, .int .i64 W]) ∧ Below w'.heap.size w' w''))
    (HPl : Hid (∀ w', Calls Tryz.prog 68 #[.agg #[.int .i64 n, .int .i64 2, .bool false, .slice none 0 0, .int .i64 0]] w' (Gives P w')))
    (HC : Hid (∀ A' n' c' w', Kd.C (Kd.int .u32) w' B m.length m → Kd.C (Kd.int .u32) w' A' n' (ofN P) → n' ≤ c' → Calls Tryz.prog 67 #[.slice B m.length d, .slice A' n' c'] w' fun e w'' => e = .returned (.int .i64 cv) ∧ Below w'.heap.size w' w''))
    (hcv : decide (cv > 0) = true) :
    Calls Tryz.prog 25 #[.int .i64 n, .agg #[.bool ni, .slice B m.length d]] w fun e w' => ∃ v, e = .returned (.agg #[.int .i64 0, .int .i64 0, .bool false, v, .int .i64 0, .bool false]) ∧ Kd.R (Kd.int .u32) 40 w' w.heap.size (fun _ => True) v [] ∧ Below w.heap.size w w' := by
  have HD0 := Lib.hid hB
  clear hB
  go_enter Tryz.func25, Tryz.ntmps25
  go_upto_region 1 with (first | fail | (go_at_call 17; (with_reducible refine (HF.out _).mono ?_); rintro e w1 ⟨rfl, b1⟩; obtain ⟨hc1, hf1⟩ := bcell b1; have hz1 := below_size b1; (try simp at hz1); have zz1_0 : w.heap.size < w1.heap.size := (by omega); have zz1_1 : w.heap.size + 1 < w1.heap.size := (by omega)))
  go_cut [3, 4, 5] (fun v3 v4 v5 wx => ∃ p : Nat, v3 = .pointer (some ⟨w.heap.size, 0, none⟩) ∧ v4 = .pointer (some ⟨w.heap.size + 1, 0, none⟩) ∧ v5 = .pointer (some ⟨p, 0, none⟩) ∧ BlkIs wx w.heap.size 48 (· = #[.bool ni, .slice B m.length d]) ∧ BlkIs wx (w.heap.size + 1) 43 (· = #[.int .i64 0, .int .i64 0, .bool false, .slice none 0 0, .int .i64 0, .bool false]) ∧ BlkIs wx p 33 (· = #[.int .i64 D, .int .i64 E, .int .i64 L, .int .i64 H, .int .i64 W]) ∧ Below w.heap.size w wx)
  case first =>
    go_wp2_with (first | fail | (go_at_call 17; (with_reducible refine (HF.out _).mono ?_); rintro e w1 ⟨rfl, b1⟩; obtain ⟨hc1, hf1⟩ := bcell b1; have hz1 := below_size b1; (try simp at hz1); have zz1_0 : w.heap.size < w1.heap.size := (by omega); have zz1_1 : w.heap.size + 1 < w1.heap.size := (by omega)))
    go_meet
    exact ⟨_, rfl, rfl, rfl, blk0, blk0, blk0, bel⟩
  case rest =>
    skip
    obtain ⟨p, rfl, rfl, rfl, HB3, HB4, HB5, hbw⟩ := hcut
    obtain ⟨cs3, hbk3, rfl⟩ := HB3
    obtain ⟨cs4, hbk4, rfl⟩ := HB4
    obtain ⟨cs5, hbk5, rfl⟩ := HB5
    have x_0 : wc.cell? ⟨w.heap.size, 0, none⟩ = some (.bool ni) := by simpa using blk_cell hbk3 0
    have x_1 : wc.cell? ⟨w.heap.size, 1, none⟩ = some (.slice B m.length d) := by simpa using blk_cell hbk3 1
    have x_z : w.heap.size < wc.heap.size := blk_lt hbk3
    have y_0 : wc.cell? ⟨(w.heap.size + 1), 0, none⟩ = some (.int .i64 0) := by simpa using blk_cell hbk4 0
    have y_f0 : wc.frozen? ⟨(w.heap.size + 1), 0, none⟩ = false := blk_frozen hbk4 0
    have y_1 : wc.cell? ⟨(w.heap.size + 1), 1, none⟩ = some (.int .i64 0) := by simpa using blk_cell hbk4 1
    have y_f1 : wc.frozen? ⟨(w.heap.size + 1), 1, none⟩ = false := blk_frozen hbk4 1
    have y_2 : wc.cell? ⟨(w.heap.size + 1), 2, none⟩ = some (.bool false) := by simpa using blk_cell hbk4 2
    have y_f2 : wc.frozen? ⟨(w.heap.size + 1), 2, none⟩ = false := blk_frozen hbk4 2
    have y_3 : wc.cell? ⟨(w.heap.size + 1), 3, none⟩ = some (.slice none 0 0) := by simpa using blk_cell hbk4 3
    have y_f3 : wc.frozen? ⟨(w.heap.size + 1), 3, none⟩ = false := blk_frozen hbk4 3
    have y_4 : wc.cell? ⟨(w.heap.size + 1), 4, none⟩ = some (.int .i64 0) := by simpa using blk_cell hbk4 4
    have y_f4 : wc.frozen? ⟨(w.heap.size + 1), 4, none⟩ = false := blk_frozen hbk4 4
    have y_5 : wc.cell? ⟨(w.heap.size + 1), 5, none⟩ = some (.bool false) := by simpa using blk_cell hbk4 5
    have y_f5 : wc.frozen? ⟨(w.heap.size + 1), 5, none⟩ = false := blk_frozen hbk4 5
    have y_z : (w.heap.size + 1) < wc.heap.size := blk_lt hbk4
    have z_0 : wc.cell? ⟨p, 0, none⟩ = some (.int .i64 D) := by simpa using blk_cell hbk5 0
    have z_1 : wc.cell? ⟨p, 1, none⟩ = some (.int .i64 E) := by simpa using blk_cell hbk5 1
    have z_2 : wc.cell? ⟨p, 2, none⟩ = some (.int .i64 L) := by simpa using blk_cell hbk5 2
    have z_3 : wc.cell? ⟨p, 3, none⟩ = some (.int .i64 H) := by simpa using blk_cell hbk5 3
    have z_4 : wc.cell? ⟨p, 4, none⟩ = some (.int .i64 W) := by simpa using blk_cell hbk5 4
    have z_z : p < wc.heap.size := blk_lt hbk5
    go_wp2_with fail
    go_region_held3 (fun w' => Below (wc).heap.size (wc) w' ∧ ∀ b o, b < (wc).heap.size → w'.cell? ⟨b, o, none⟩ = (wc).cell? ⟨b, o, none⟩) (first | ((try go_split_ands); refine below_S ?_; ((repeat (first | with_reducible assumption | with_reducible exact Below.refl _ _ | with_reducible refine below_alloc ?_ _ | with_reducible refine pw_below_drewN ?_ _ | with_reducible refine below_drew1 ?_ | ((with_reducible refine below_set ?_ ?hle); (case hle => first | (simp; done) | omega | (simp; omega))) | with_reducible refine below_step ?_ (by with_reducible assumption))); done))) (first | (go_at_call 68; (with_reducible refine (HPl.out _).mono ?_); rintro e w10 ⟨A10, n10, c10, rfl, HV10, b10⟩; obtain ⟨hc10, hf10⟩ := bcell b10; (try simp only [dr_size, dr_cell] at hc10); (try simp only [dr_size, dr_frozen] at hf10); have hz10 := below_size b10; (try simp at hz10); have zz10_0 : w.heap.size < w10.heap.size := (by omega); have zz10_1 : w.heap.size + 1 < w10.heap.size := (by omega); have zz10_2 : p < w10.heap.size := (by omega)) | (go_at_call 67; (with_reducible refine (HC.out _ _ _ _ (Kd.C_below HD0.out bel) (Kd.C_below HV10.out.2 bel) HV10.out.1).mono ?_); rintro e w11 ⟨rfl, b11⟩; obtain ⟨hc11, hf11⟩ := bcell b11; (try simp only [dr_size, dr_cell] at hc11); (try simp only [dr_size, dr_frozen] at hf11); have hz11 := below_size b11; (try simp at hz11); have zz11_0 : w.heap.size < w11.heap.size := (by omega); have zz11_1 : w.heap.size + 1 < w11.heap.size := (by omega); have zz11_2 : p < w11.heap.size := (by omega)))
    all_goals
      go_wp2_with fail
      exact bodyPost_ret (v := .agg #[.int .i64 0, .int .i64 0, .bool false, .slice none 0 0, .int .i64 0, .bool false]) (by simp [results, Tryz.results25, go_sem, *]) rfl ⟨_, rfl, Kd.R_nil _ _ _ _ _, bel⟩
set_option maxHeartbeats 8000000 in
theorem rat_eq0 {n D E L H W cv : Int} {ni : Bool} {B : Option Addr} {d P : Nat} {m : List Int} (w : World)
    (hB : Kd.C (Kd.int .u32) w B m.length m) (hBc : m.length ≤ d)
    (HF : Hid (∀ w', Calls Tryz.prog 17 #[.int .i64 n] w' fun e w'' => e = .returned (.agg #[.int .i64 D, .int .i64 E, .int .i64 L, .int .i64 H, .int .i64 W]) ∧ Below w'.heap.size w' w''))
    (HPl : Hid (∀ w', Calls Tryz.prog 68 #[.agg #[.int .i64 n, .int .i64 2, .bool false, .slice none 0 0, .int .i64 0]] w' (Gives P w')))
    (HC : Hid (∀ A' n' c' w', Kd.C (Kd.int .u32) w' B m.length m → Kd.C (Kd.int .u32) w' A' n' (ofN P) → n' ≤ c' → Calls Tryz.prog 67 #[.slice B m.length d, .slice A' n' c'] w' fun e w'' => e = .returned (.int .i64 cv) ∧ Below w'.heap.size w' w''))
    (hcv : decide (cv > 0) = false) (hc0 : (cv == 0) = true) :
    Calls Tryz.prog 25 #[.int .i64 n, .agg #[.bool ni, .slice B m.length d]] w fun e w' => ∃ v, e = .returned (.agg #[.int .i64 n, .int .i64 2, .bool ni, v, .int .i64 0, .bool true]) ∧ Kd.R (Kd.int .u32) 40 w' w.heap.size (fun _ => True) v [] ∧ Below w.heap.size w w' := by
  have HD0 := Lib.hid hB
  clear hB
  go_enter Tryz.func25, Tryz.ntmps25
  go_upto_region 1 with (first | fail | (go_at_call 17; (with_reducible refine (HF.out _).mono ?_); rintro e w1 ⟨rfl, b1⟩; obtain ⟨hc1, hf1⟩ := bcell b1; have hz1 := below_size b1; (try simp at hz1); have zz1_0 : w.heap.size < w1.heap.size := (by omega); have zz1_1 : w.heap.size + 1 < w1.heap.size := (by omega)))
  go_cut [3, 4, 5] (fun v3 v4 v5 wx => ∃ p : Nat, v3 = .pointer (some ⟨w.heap.size, 0, none⟩) ∧ v4 = .pointer (some ⟨w.heap.size + 1, 0, none⟩) ∧ v5 = .pointer (some ⟨p, 0, none⟩) ∧ BlkIs wx w.heap.size 48 (· = #[.bool ni, .slice B m.length d]) ∧ BlkIs wx (w.heap.size + 1) 43 (· = #[.int .i64 0, .int .i64 0, .bool false, .slice none 0 0, .int .i64 0, .bool false]) ∧ BlkIs wx p 33 (· = #[.int .i64 D, .int .i64 E, .int .i64 L, .int .i64 H, .int .i64 W]) ∧ Below w.heap.size w wx)
  case first =>
    go_wp2_with (first | fail | (go_at_call 17; (with_reducible refine (HF.out _).mono ?_); rintro e w1 ⟨rfl, b1⟩; obtain ⟨hc1, hf1⟩ := bcell b1; have hz1 := below_size b1; (try simp at hz1); have zz1_0 : w.heap.size < w1.heap.size := (by omega); have zz1_1 : w.heap.size + 1 < w1.heap.size := (by omega)))
    go_meet
    exact ⟨_, rfl, rfl, rfl, blk0, blk0, blk0, bel⟩
  case rest =>
    skip
    obtain ⟨p, rfl, rfl, rfl, HB3, HB4, HB5, hbw⟩ := hcut
    obtain ⟨cs3, hbk3, rfl⟩ := HB3
    obtain ⟨cs4, hbk4, rfl⟩ := HB4
    obtain ⟨cs5, hbk5, rfl⟩ := HB5
    have x_0 : wc.cell? ⟨w.heap.size, 0, none⟩ = some (.bool ni) := by simpa using blk_cell hbk3 0
    have x_1 : wc.cell? ⟨w.heap.size, 1, none⟩ = some (.slice B m.length d) := by simpa using blk_cell hbk3 1
    have x_z : w.heap.size < wc.heap.size := blk_lt hbk3
    have y_0 : wc.cell? ⟨(w.heap.size + 1), 0, none⟩ = some (.int .i64 0) := by simpa using blk_cell hbk4 0
    have y_f0 : wc.frozen? ⟨(w.heap.size + 1), 0, none⟩ = false := blk_frozen hbk4 0
    have y_1 : wc.cell? ⟨(w.heap.size + 1), 1, none⟩ = some (.int .i64 0) := by simpa using blk_cell hbk4 1
    have y_f1 : wc.frozen? ⟨(w.heap.size + 1), 1, none⟩ = false := blk_frozen hbk4 1
    have y_2 : wc.cell? ⟨(w.heap.size + 1), 2, none⟩ = some (.bool false) := by simpa using blk_cell hbk4 2
    have y_f2 : wc.frozen? ⟨(w.heap.size + 1), 2, none⟩ = false := blk_frozen hbk4 2
    have y_3 : wc.cell? ⟨(w.heap.size + 1), 3, none⟩ = some (.slice none 0 0) := by simpa using blk_cell hbk4 3
    have y_f3 : wc.frozen? ⟨(w.heap.size + 1), 3, none⟩ = false := blk_frozen hbk4 3
    have y_4 : wc.cell? ⟨(w.heap.size + 1), 4, none⟩ = some (.int .i64 0) := by simpa using blk_cell hbk4 4
    have y_f4 : wc.frozen? ⟨(w.heap.size + 1), 4, none⟩ = false := blk_frozen hbk4 4
    have y_5 : wc.cell? ⟨(w.heap.size + 1), 5, none⟩ = some (.bool false) := by simpa using blk_cell hbk4 5
    have y_f5 : wc.frozen? ⟨(w.heap.size + 1), 5, none⟩ = false := blk_frozen hbk4 5
    have y_z : (w.heap.size + 1) < wc.heap.size := blk_lt hbk4
    have z_0 : wc.cell? ⟨p, 0, none⟩ = some (.int .i64 D) := by simpa using blk_cell hbk5 0
    have z_1 : wc.cell? ⟨p, 1, none⟩ = some (.int .i64 E) := by simpa using blk_cell hbk5 1
    have z_2 : wc.cell? ⟨p, 2, none⟩ = some (.int .i64 L) := by simpa using blk_cell hbk5 2
    have z_3 : wc.cell? ⟨p, 3, none⟩ = some (.int .i64 H) := by simpa using blk_cell hbk5 3
    have z_4 : wc.cell? ⟨p, 4, none⟩ = some (.int .i64 W) := by simpa using blk_cell hbk5 4
    have z_z : p < wc.heap.size := blk_lt hbk5
    go_wp2_with fail
    go_region_held3 (fun w' => Below (wc).heap.size (wc) w' ∧ ∀ b o, b < (wc).heap.size → w'.cell? ⟨b, o, none⟩ = (wc).cell? ⟨b, o, none⟩) (first | ((try go_split_ands); refine below_S ?_; ((repeat (first | with_reducible assumption | with_reducible exact Below.refl _ _ | with_reducible refine below_alloc ?_ _ | with_reducible refine pw_below_drewN ?_ _ | with_reducible refine below_drew1 ?_ | ((with_reducible refine below_set ?_ ?hle); (case hle => first | (simp; done) | omega | (simp; omega))) | with_reducible refine below_step ?_ (by with_reducible assumption))); done))) (first | (go_at_call 68; (with_reducible refine (HPl.out _).mono ?_); rintro e w10 ⟨A10, n10, c10, rfl, HV10, b10⟩; obtain ⟨hc10, hf10⟩ := bcell b10; (try simp only [dr_size, dr_cell] at hc10); (try simp only [dr_size, dr_frozen] at hf10); have hz10 := below_size b10; (try simp at hz10); have zz10_0 : w.heap.size < w10.heap.size := (by omega); have zz10_1 : w.heap.size + 1 < w10.heap.size := (by omega); have zz10_2 : p < w10.heap.size := (by omega)) | (go_at_call 67; (with_reducible refine (HC.out _ _ _ _ (Kd.C_below HD0.out bel) (Kd.C_below HV10.out.2 bel) HV10.out.1).mono ?_); rintro e w11 ⟨rfl, b11⟩; obtain ⟨hc11, hf11⟩ := bcell b11; (try simp only [dr_size, dr_cell] at hc11); (try simp only [dr_size, dr_frozen] at hf11); have hz11 := below_size b11; (try simp at hz11); have zz11_0 : w.heap.size < w11.heap.size := (by omega); have zz11_1 : w.heap.size + 1 < w11.heap.size := (by omega); have zz11_2 : p < w11.heap.size := (by omega)))
    all_goals
      go_wp2_with fail
      exact bodyPost_ret (v := .agg #[.int .i64 n, .int .i64 2, .bool ni, .slice none 0 0, .int .i64 0, .bool true]) (by simp [results, Tryz.results25, go_sem, *]) rfl ⟨_, rfl, Kd.R_nil _ _ _ _ _, bel⟩
set_option maxHeartbeats 8000000 in
theorem rat_fin {n D E L H W cv D1 q ex : Int} {ni : Bool} {B : Option Addr} {d P Q k T M : Nat} {m R : List Int} (w : World)
    (hB : Kd.C (Kd.int .u32) w B m.length m) (hBc : m.length ≤ d)
    (HF : Hid (∀ w', Calls Tryz.prog 17 #[.int .i64 n] w' fun e w'' => e = .returned (.agg #[.int .i64 D, .int .i64 E, .int .i64 L, .int .i64 H, .int .i64 W]) ∧ Below w'.heap.size w' w''))
    (HPl : Hid (∀ w', Calls Tryz.prog 68 #[.agg #[.int .i64 n, .int .i64 2, .bool false, .slice none 0 0, .int .i64 0]] w' (Gives P w')))
    (HC : Hid (∀ A' n' c' w', Kd.C (Kd.int .u32) w' B m.length m → Kd.C (Kd.int .u32) w' A' n' (ofN P) → n' ≤ c' → Calls Tryz.prog 67 #[.slice B m.length d, .slice A' n' c'] w' fun e w'' => e = .returned (.int .i64 cv) ∧ Below w'.heap.size w' w''))
    (hcv : decide (cv > 0) = false) (hc0 : (cv == 0) = false)
    (hD1 : IntKind.i64.wrap (D - 1) = D1)
    (HSh : Hid (∀ w', Kd.C (Kd.int .u32) w' B m.length m → Calls Tryz.prog 53 #[.slice B m.length d, .int .i64 D1] w' (Gives Q w')))
    (HNu : Hid (∀ A' n' c' w', Kd.C (Kd.int .u32) w' A' n' (ofN Q) → n' ≤ c' → Calls Tryz.prog 69 #[.slice A' n' c'] w' fun e w'' => e = .returned (.int .i64 q) ∧ Below w'.heap.size w' w''))
    (hk : max 0 (IntKind.i64.wrap (q - 1)) = (k : Nat)) (hk2 : max 0 (wrap64 (q - 1)) = (k : Nat)) (hku : IntKind.u64.wrap (k : Nat) = (k : Nat)) (hex : wrap64 (L + (k : Nat)) = ex) (hex2 : IntKind.i64.wrap (L + (k : Nat)) = ex)
    (HO : Hid (∀ w', Calls Tryz.prog 71 #[.int .u64 (k : Nat)] w' (Gives k w')))
    (HP : Hid (∀ w', Calls Tryz.prog 56 #[.int .i64 D1] w' (Gives T w')))
    (HM : Hid (∀ A n c A' n' c' w', Kd.C (Kd.int .u32) w' A n (ofN k) → n ≤ c → Kd.C (Kd.int .u32) w' A' n' (ofN T) → n' ≤ c' → Calls Tryz.prog 70 #[.slice A n c, .slice A' n' c'] w' (Gives M w')))
    (HS : Hid (∀ A' n' c' w', Kd.C (Kd.int .u32) w' B m.length m → Kd.C (Kd.int .u32) w' A' n' (ofN M) → n' ≤ c' → Calls Tryz.prog 55 #[.slice B m.length d, .slice A' n' c'] w' (NewRow w' R))) :
    Calls Tryz.prog 25 #[.int .i64 n, .agg #[.bool ni, .slice B m.length d]] w fun e w' => ∃ v, e = .returned (.agg #[.int .i64 n, .int .i64 1, .bool ni, v, .int .i64 ex, .bool true]) ∧ Kd.R (Kd.int .u32) 40 w' w.heap.size (fun _ => True) v R ∧ Below w.heap.size w w' := by
  have HD0 := Lib.hid hB
  clear hB
  go_enter Tryz.func25, Tryz.ntmps25
  go_upto_region 1 with (first | fail | (go_at_call 17; (with_reducible refine (HF.out _).mono ?_); rintro e w1 ⟨rfl, b1⟩; obtain ⟨hc1, hf1⟩ := bcell b1; have hz1 := below_size b1; (try simp at hz1); have zz1_0 : w.heap.size < w1.heap.size := (by omega); have zz1_1 : w.heap.size + 1 < w1.heap.size := (by omega)))
  go_cut [3, 4, 5] (fun v3 v4 v5 wx => ∃ p : Nat, v3 = .pointer (some ⟨w.heap.size, 0, none⟩) ∧ v4 = .pointer (some ⟨w.heap.size + 1, 0, none⟩) ∧ v5 = .pointer (some ⟨p, 0, none⟩) ∧ BlkIs wx w.heap.size 48 (· = #[.bool ni, .slice B m.length d]) ∧ BlkIs wx (w.heap.size + 1) 43 (· = #[.int .i64 0, .int .i64 0, .bool false, .slice none 0 0, .int .i64 0, .bool false]) ∧ BlkIs wx p 33 (· = #[.int .i64 D, .int .i64 E, .int .i64 L, .int .i64 H, .int .i64 W]) ∧ Below w.heap.size w wx)
  case first =>
    go_wp2_with (first | fail | (go_at_call 17; (with_reducible refine (HF.out _).mono ?_); rintro e w1 ⟨rfl, b1⟩; obtain ⟨hc1, hf1⟩ := bcell b1; have hz1 := below_size b1; (try simp at hz1); have zz1_0 : w.heap.size < w1.heap.size := (by omega); have zz1_1 : w.heap.size + 1 < w1.heap.size := (by omega)))
    go_meet
    exact ⟨_, rfl, rfl, rfl, blk0, blk0, blk0, bel⟩
  case rest =>
    skip
    obtain ⟨p, rfl, rfl, rfl, HB3, HB4, HB5, hbw⟩ := hcut
    obtain ⟨cs3, hbk3, rfl⟩ := HB3
    obtain ⟨cs4, hbk4, rfl⟩ := HB4
    obtain ⟨cs5, hbk5, rfl⟩ := HB5
    have x_0 : wc.cell? ⟨w.heap.size, 0, none⟩ = some (.bool ni) := by simpa using blk_cell hbk3 0
    have x_1 : wc.cell? ⟨w.heap.size, 1, none⟩ = some (.slice B m.length d) := by simpa using blk_cell hbk3 1
    have x_z : w.heap.size < wc.heap.size := blk_lt hbk3
    have y_0 : wc.cell? ⟨(w.heap.size + 1), 0, none⟩ = some (.int .i64 0) := by simpa using blk_cell hbk4 0
    have y_f0 : wc.frozen? ⟨(w.heap.size + 1), 0, none⟩ = false := blk_frozen hbk4 0
    have y_1 : wc.cell? ⟨(w.heap.size + 1), 1, none⟩ = some (.int .i64 0) := by simpa using blk_cell hbk4 1
    have y_f1 : wc.frozen? ⟨(w.heap.size + 1), 1, none⟩ = false := blk_frozen hbk4 1
    have y_2 : wc.cell? ⟨(w.heap.size + 1), 2, none⟩ = some (.bool false) := by simpa using blk_cell hbk4 2
    have y_f2 : wc.frozen? ⟨(w.heap.size + 1), 2, none⟩ = false := blk_frozen hbk4 2
    have y_3 : wc.cell? ⟨(w.heap.size + 1), 3, none⟩ = some (.slice none 0 0) := by simpa using blk_cell hbk4 3
    have y_f3 : wc.frozen? ⟨(w.heap.size + 1), 3, none⟩ = false := blk_frozen hbk4 3
    have y_4 : wc.cell? ⟨(w.heap.size + 1), 4, none⟩ = some (.int .i64 0) := by simpa using blk_cell hbk4 4
    have y_f4 : wc.frozen? ⟨(w.heap.size + 1), 4, none⟩ = false := blk_frozen hbk4 4
    have y_5 : wc.cell? ⟨(w.heap.size + 1), 5, none⟩ = some (.bool false) := by simpa using blk_cell hbk4 5
    have y_f5 : wc.frozen? ⟨(w.heap.size + 1), 5, none⟩ = false := blk_frozen hbk4 5
    have y_z : (w.heap.size + 1) < wc.heap.size := blk_lt hbk4
    have z_0 : wc.cell? ⟨p, 0, none⟩ = some (.int .i64 D) := by simpa using blk_cell hbk5 0
    have z_1 : wc.cell? ⟨p, 1, none⟩ = some (.int .i64 E) := by simpa using blk_cell hbk5 1
    have z_2 : wc.cell? ⟨p, 2, none⟩ = some (.int .i64 L) := by simpa using blk_cell hbk5 2
    have z_3 : wc.cell? ⟨p, 3, none⟩ = some (.int .i64 H) := by simpa using blk_cell hbk5 3
    have z_4 : wc.cell? ⟨p, 4, none⟩ = some (.int .i64 W) := by simpa using blk_cell hbk5 4
    have z_z : p < wc.heap.size := blk_lt hbk5
    go_wp2_with fail
    go_region_held3 (fun w' => Below (wc).heap.size (wc) w' ∧ ∀ b o, b < (wc).heap.size → w'.cell? ⟨b, o, none⟩ = (wc).cell? ⟨b, o, none⟩) (first | ((try go_split_ands); refine below_S ?_; ((repeat (first | with_reducible assumption | with_reducible exact Below.refl _ _ | with_reducible refine below_alloc ?_ _ | with_reducible refine pw_below_drewN ?_ _ | with_reducible refine below_drew1 ?_ | ((with_reducible refine below_set ?_ ?hle); (case hle => first | (simp; done) | omega | (simp; omega))) | with_reducible refine below_step ?_ (by with_reducible assumption))); done))) (first | (go_at_call 68; (with_reducible refine (HPl.out _).mono ?_); rintro e w10 ⟨A10, n10, c10, rfl, HV10, b10⟩; obtain ⟨hc10, hf10⟩ := bcell b10; (try simp only [dr_size, dr_cell] at hc10); (try simp only [dr_size, dr_frozen] at hf10); have hz10 := below_size b10; (try simp at hz10); have zz10_0 : w.heap.size < w10.heap.size := (by omega); have zz10_1 : w.heap.size + 1 < w10.heap.size := (by omega); have zz10_2 : p < w10.heap.size := (by omega)) | (go_at_call 67; (with_reducible refine (HC.out _ _ _ _ (Kd.C_below HD0.out bel) (Kd.C_below HV10.out.2 bel) HV10.out.1).mono ?_); rintro e w11 ⟨rfl, b11⟩; obtain ⟨hc11, hf11⟩ := bcell b11; (try simp only [dr_size, dr_cell] at hc11); (try simp only [dr_size, dr_frozen] at hf11); have hz11 := below_size b11; (try simp at hz11); have zz11_0 : w.heap.size < w11.heap.size := (by omega); have zz11_1 : w.heap.size + 1 < w11.heap.size := (by omega); have zz11_2 : p < w11.heap.size := (by omega)))
    all_goals
      go_upto_region 7 with fail
      go_cut [3, 4, 5, 7] (fun v3 v4 v5 v7 wx => ∃ p : Nat, v3 = .pointer (some ⟨w.heap.size, 0, none⟩) ∧ v4 = .pointer (some ⟨w.heap.size + 1, 0, none⟩) ∧ v5 = .pointer (some ⟨p, 0, none⟩) ∧ BlkIs wx w.heap.size 48 (· = #[.bool ni, .slice B m.length d]) ∧ BlkIs wx (w.heap.size + 1) 43 (· = #[.int .i64 0, .int .i64 0, .bool false, .slice none 0 0, .int .i64 0, .bool false]) ∧ BlkIs wx p 33 (· = #[.int .i64 D, .int .i64 E, .int .i64 L, .int .i64 H, .int .i64 W]) ∧ v7 = .int .i64 (k : Nat) ∧ Below w.heap.size w wx)
      case first =>
        go_wp2_with (first | fail | (go_at_call 53; (try rw [hD1]); (with_reducible refine (HSh.out _ (Kd.C_below HD0.out bel)).mono ?_); rintro e w12 ⟨A12, n12, c12, rfl, HV12, b12⟩; obtain ⟨hc12, hf12⟩ := bcell b12; have hz12 := below_size b12; (try simp at hz12); have zz12_0 : w.heap.size < w12.heap.size := (by omega); have zz12_1 : w.heap.size + 1 < w12.heap.size := (by omega); have zz12_2 : p < w12.heap.size := (by omega)) | (go_at_call 69; (with_reducible refine (HNu.out _ _ _ _ (Kd.C_below HV12.out.2 bel) HV12.out.1).mono ?_); rintro e w13 ⟨rfl, b13⟩; obtain ⟨hc13, hf13⟩ := bcell b13; have hz13 := below_size b13; (try simp at hz13); have zz13_0 : w.heap.size < w13.heap.size := (by omega); have zz13_1 : w.heap.size + 1 < w13.heap.size := (by omega); have zz13_2 : p < w13.heap.size := (by omega)))
        go_meet
        exact ⟨_, rfl, rfl, rfl, blk1, blk1, blk1, (by first | (rw [hk]) | (rw [hk2]) | (simp only [hk, hk2])), bel⟩
      case rest =>
        skip
        clear x_0 x_1 x_z y_0 y_1 y_2 y_3 y_4 y_5 y_f0 y_f1 y_f2 y_f3 y_f4 y_f5 y_z z_0 z_1 z_2 z_3 z_4 z_z hbk3 hbk4 hbk5
        obtain ⟨p, rfl, rfl, rfl, HB3, HB4, HB5, rfl, hbw⟩ := hcut
        obtain ⟨cs3, hbk3, rfl⟩ := HB3
        obtain ⟨cs4, hbk4, rfl⟩ := HB4
        obtain ⟨cs5, hbk5, rfl⟩ := HB5
        have x_0 : wc.cell? ⟨w.heap.size, 0, none⟩ = some (.bool ni) := by simpa using blk_cell hbk3 0
        have x_1 : wc.cell? ⟨w.heap.size, 1, none⟩ = some (.slice B m.length d) := by simpa using blk_cell hbk3 1
        have x_z : w.heap.size < wc.heap.size := blk_lt hbk3
        have y_0 : wc.cell? ⟨(w.heap.size + 1), 0, none⟩ = some (.int .i64 0) := by simpa using blk_cell hbk4 0
        have y_f0 : wc.frozen? ⟨(w.heap.size + 1), 0, none⟩ = false := blk_frozen hbk4 0
        have y_1 : wc.cell? ⟨(w.heap.size + 1), 1, none⟩ = some (.int .i64 0) := by simpa using blk_cell hbk4 1
        have y_f1 : wc.frozen? ⟨(w.heap.size + 1), 1, none⟩ = false := blk_frozen hbk4 1
        have y_2 : wc.cell? ⟨(w.heap.size + 1), 2, none⟩ = some (.bool false) := by simpa using blk_cell hbk4 2
        have y_f2 : wc.frozen? ⟨(w.heap.size + 1), 2, none⟩ = false := blk_frozen hbk4 2
        have y_3 : wc.cell? ⟨(w.heap.size + 1), 3, none⟩ = some (.slice none 0 0) := by simpa using blk_cell hbk4 3
        have y_f3 : wc.frozen? ⟨(w.heap.size + 1), 3, none⟩ = false := blk_frozen hbk4 3
        have y_4 : wc.cell? ⟨(w.heap.size + 1), 4, none⟩ = some (.int .i64 0) := by simpa using blk_cell hbk4 4
        have y_f4 : wc.frozen? ⟨(w.heap.size + 1), 4, none⟩ = false := blk_frozen hbk4 4
        have y_5 : wc.cell? ⟨(w.heap.size + 1), 5, none⟩ = some (.bool false) := by simpa using blk_cell hbk4 5
        have y_f5 : wc.frozen? ⟨(w.heap.size + 1), 5, none⟩ = false := blk_frozen hbk4 5
        have y_z : (w.heap.size + 1) < wc.heap.size := blk_lt hbk4
        have z_0 : wc.cell? ⟨p, 0, none⟩ = some (.int .i64 D) := by simpa using blk_cell hbk5 0
        have z_1 : wc.cell? ⟨p, 1, none⟩ = some (.int .i64 E) := by simpa using blk_cell hbk5 1
        have z_2 : wc.cell? ⟨p, 2, none⟩ = some (.int .i64 L) := by simpa using blk_cell hbk5 2
        have z_3 : wc.cell? ⟨p, 3, none⟩ = some (.int .i64 H) := by simpa using blk_cell hbk5 3
        have z_4 : wc.cell? ⟨p, 4, none⟩ = some (.int .i64 W) := by simpa using blk_cell hbk5 4
        have z_z : p < wc.heap.size := blk_lt hbk5
        go_wp2_with fail
        go_region_held3 (fun w' => Below (wc).heap.size (wc) w' ∧ ∀ b o, b < (wc).heap.size → w'.cell? ⟨b, o, none⟩ = (wc).cell? ⟨b, o, none⟩) (first | ((try go_split_ands); refine below_S ?_; ((repeat (first | with_reducible assumption | with_reducible exact Below.refl _ _ | with_reducible refine below_alloc ?_ _ | with_reducible refine pw_below_drewN ?_ _ | with_reducible refine below_drew1 ?_ | ((with_reducible refine below_set ?_ ?hle); (case hle => first | (simp; done) | omega | (simp; omega))) | with_reducible refine below_step ?_ (by with_reducible assumption))); done))) (first | (go_at_call 71; (try rw [hk]); (try rw [hk2]); (try rw [hku]); (with_reducible refine (HO.out _).mono ?_); rintro e w30 ⟨A30, n30, c30, rfl, HV30, b30⟩; obtain ⟨hc30, hf30⟩ := bcell b30; (try simp only [dr_size, dr_cell] at hc30); (try simp only [dr_size, dr_frozen] at hf30); have hz30 := below_size b30; (try simp at hz30); have zz30_0 : w.heap.size < w30.heap.size := (by omega); have zz30_1 : w.heap.size + 1 < w30.heap.size := (by omega); have zz30_2 : p < w30.heap.size := (by omega)) | (go_at_call 56; (try rw [hD1]); (with_reducible refine (HP.out _).mono ?_); rintro e w31 ⟨A31, n31, c31, rfl, HV31, b31⟩; obtain ⟨hc31, hf31⟩ := bcell b31; (try simp only [dr_size, dr_cell] at hc31); (try simp only [dr_size, dr_frozen] at hf31); have hz31 := below_size b31; (try simp at hz31); have zz31_0 : w.heap.size < w31.heap.size := (by omega); have zz31_1 : w.heap.size + 1 < w31.heap.size := (by omega); have zz31_2 : p < w31.heap.size := (by omega)) | (go_at_call 70; (with_reducible refine (HM.out _ _ _ _ _ _ _ (Kd.C_below HV30.out.2 bel) HV30.out.1 (Kd.C_below HV31.out.2 bel) HV31.out.1).mono ?_); rintro e w32 ⟨A32, n32, c32, rfl, HV32, b32⟩; obtain ⟨hc32, hf32⟩ := bcell b32; (try simp only [dr_size, dr_cell] at hc32); (try simp only [dr_size, dr_frozen] at hf32); have hz32 := below_size b32; (try simp at hz32); have zz32_0 : w.heap.size < w32.heap.size := (by omega); have zz32_1 : w.heap.size + 1 < w32.heap.size := (by omega); have zz32_2 : p < w32.heap.size := (by omega)) | (go_at_call 55; (with_reducible refine (HS.out _ _ _ _ (Kd.C_below HD0.out bel) (Kd.C_below HV32.out.2 bel) HV32.out.1).mono ?_); rintro e w33 ⟨v33, rfl, hv33, b33⟩; obtain ⟨A33, c33, rfl⟩ := Kd.R_slice hv33; have HV33 := Lib.hid hv33; clear hv33; obtain ⟨hc33, hf33⟩ := bcell b33; (try simp only [dr_size, dr_cell] at hc33); (try simp only [dr_size, dr_frozen] at hf33); have hz33 := below_size b33; (try simp at hz33); have zz33_0 : w.heap.size < w33.heap.size := (by omega); have zz33_1 : w.heap.size + 1 < w33.heap.size := (by omega); have zz33_2 : p < w33.heap.size := (by omega)))
        all_goals
          go_wp2_with fail
          exact bodyPost_ret (v := .agg #[.int .i64 n, .int .i64 1, .bool ni, .slice A33 R.length c33, .int .i64 ex, .bool true]) (by simp [results, Tryz.results25, go_sem, *]) rfl ⟨_, rfl, Kd.R_lower (R_chg (S := fun k => k = w.heap.size + 1 ∨ k = w.heap.size + 1) HV33.out chg2 (by intro k hk h; have h2 : k = w.heap.size + 1 := (by rcases h with h | h <;> exact h); (try simp at hk); first | done | omega)) (by first | omega | (simp; done) | (simp; omega)), bel⟩
end Go.Proofs.YtacnkcojhlbkoaaGreatDoor

namespace Go.Proofs.YtacnkcojhlbkoaaGreatDoor.XSdy
open Go.RowKit Go.Proofs.YtacnkcojhlbkoaaGreatDoorW.PrintWords Go.Proofs.YtacnkcojhlbkoaaGreatDoorW.PrintLast Go.Proofs.YtacnkcojhlbkoaaGreatDoorW.PrintMore
attribute [local go_sem] max2_int min2_int max_two min_two max_three min_three max_four min_four   -- for this text's walks alone
set_option linter.unusedVariables false
set_option linter.unusedSimpArgs false

def errW : Option Int → Value
  | none => .nilIface
  | some c => .iface 0 (.int .i64 c)
theorem errW_none : errW none = .nilIface := rfl
theorem errW_some (c : Int) : errW (some c) = .iface 0 (.int .i64 c) := rfl

-- the values' own types

end Go.Proofs.YtacnkcojhlbkoaaGreatDoor.XSdy

namespace Go.Proofs.YtacnkcojhlbkoaaGreatDoor.XSdy
open Go.RowKit Go.Proofs.YtacnkcojhlbkoaaGreatDoorW.PrintWords Go.Proofs.YtacnkcojhlbkoaaGreatDoorW.PrintLast Go.Proofs.YtacnkcojhlbkoaaGreatDoorW.PrintMore Go.Proofs.YtacnkcojhlbkoaaGreatDoor.Zip
attribute [local go_sem] max2_int min2_int max_two min_two max_three min_three max_four min_four   -- for this text's walks alone
set_option linter.unusedVariables false
set_option linter.unusedSimpArgs false

/-! ### sorobanref05_SameInt: function 27 -/
def sorobanref05_SameInt.f (a0_0 : Bool) (l0_1 : List Int) (a1_0 : Bool) (l1_1 : List Int) : Option (Bool) := if (a0_0 == a1_0) = true then ((sorobanref01_Same.f l0_1 l1_1).bind fun t103 => (some t103)) else (some false)
set_option maxHeartbeats 8000000 in
set_option maxRecDepth 100000 in
theorem sorobanref05_SameInt.calls (a0_0 : Bool) (A0_1 : Option Addr) (c0_1 : Nat) (l0_1 : List Int) (a1_0 : Bool) (A1_1 : Option Addr) (c1_1 : Nat) (l1_1 : List Int) (r : Bool) (w : World) (hr0_1 : Kd.C (Kd.int .u32) w A0_1 l0_1.length l0_1) (hc0_1 : l0_1.length ≤ c0_1) (hr1_1 : Kd.C (Kd.int .u32) w A1_1 l1_1.length l1_1) (hc1_1 : l1_1.length ≤ c1_1) (h : sorobanref05_SameInt.f a0_0 l0_1 a1_0 l1_1 = some r) :
    Calls Tryz.prog 27 #[.agg #[.bool a0_0, .slice A0_1 l0_1.length c0_1], .agg #[.bool a1_0, .slice A1_1 l1_1.length c1_1]] w fun e w' => e = .returned (.bool r) ∧ Below w.heap.size w w' := by
  have hu48 := Tryz.underlying48
  have HR0_1 := Aside0.mk hr0_1
  have HC0_1 := Aside0.mk hc0_1
  clear hr0_1 hc0_1
  have HR1_1 := Aside0.mk hr1_1
  have HC1_1 := Aside0.mk hc1_1
  clear hr1_1 hc1_1
  have HB := Aside0.mk (Below.refl w.heap.size w)
  have H : (if (a0_0 == a1_0) = true then ((sorobanref01_Same.f l0_1 l1_1).bind fun t103 => (some t103)) else (some false)) = some r := h
  clear h
  by_cases c3 : (a0_0 == a1_0) = true
  · rw [if_pos c3] at H
    have c3b0 : (a0_0 == a1_0) = true := c3
    (try (have c3b1 : decide (a0_0 = a1_0) = true := by simpa using c3))
    (try (have c3b2 : (a0_0 == a1_0) = true := by simpa using c3))
    clear c3
    replace H := Option.bind_eq_some_iff.mp H
    obtain ⟨t103, A40, H⟩ := H
    replace H : (some t103) = some r := H
    have A4 := Aside0.mk A40
    clear A40
    obtain rfl := Option.some.inj H
    go_enter Tryz.func27, Tryz.ntmps27
    go_wp2_with (first | ((with_reducible refine gate_dst (N := 2) rfl ?_); refine box_event ?hg (N := 2) ?hd (cs := #[.bool a0_0, .slice A0_1 l0_1.length c0_1]) (t := 48) ?hr ?_; (case hd => rfl); (case hg => rfl); (case hr => first | (go_simp; done) | (go_simp; rfl)); intro gb101 hg w5 hbox hb; have n0_ := Aside0.mk (below_step (zb HB.out) hb); have n1_ := Aside0.mk (hbox); have n2_ := Aside0.mk ((by rw [hg]; exact (below_size (zb HB.out)) : w.heap.size ≤ gb101)); have n3_ := Aside0.mk ((by rw [hg]; exact (below_size (zb HB.out)) : w.heap.size ≤ gb101)); clear HB; have HB := n0_; have BK101 := n1_; have GW101 := n2_; have GE101 := n3_; clear n0_ n1_ n2_ n3_; clear hb hbox hg) | ((with_reducible refine gate_dst (N := 3) rfl ?_); refine box_event ?hg (N := 3) ?hd (cs := #[.bool a1_0, .slice A1_1 l1_1.length c1_1]) (t := 48) ?hr ?_; (case hd => rfl); (case hg => rfl); (case hr => first | (go_simp; done) | (go_simp; rfl)); intro gb102 hg w6 hbox hb; have n0_ := Aside0.mk (blk_below (g := gb101) (o := .cells #[.bool a0_0, .slice A0_1 l0_1.length c0_1] 48 (0, 0)) (zk BK101.out) hb); have n1_ := Aside0.mk (below_step (zb HB.out) hb); have n2_ := Aside0.mk (hbox); have n3_ := Aside0.mk ((by rw [hg]; exact (below_size (zb HB.out)) : w.heap.size ≤ gb102)); have n4_ := Aside0.mk ((by rw [hg]; exact (below_size (zb HB.out)) : w.heap.size ≤ gb102)); have n5_ := Aside0.mk ((by rw [hg]; exact Nat.ne_of_lt (blk_lt (g := gb101) (o := .cells #[.bool a0_0, .slice A0_1 l0_1.length c0_1] 48 (0, 0)) (zk BK101.out)) : gb101 ≠ gb102)); have n6_ := Aside0.mk ((by rw [hg]; exact Nat.ne_of_gt (blk_lt (g := gb101) (o := .cells #[.bool a0_0, .slice A0_1 l0_1.length c0_1] 48 (0, 0)) (zk BK101.out)) : gb102 ≠ gb101)); clear BK101; clear HB; have BK101 := n0_; have HB := n1_; have BK102 := n2_; have GW102 := n3_; have GE102 := n4_; have NB101_102 := n5_; have NB102_101 := n6_; clear n0_ n1_ n2_ n3_ n4_ n5_ n6_; clear hb hbox hg; have hnb7 := NB101_102.out; have hnc7 := NB102_101.out; have hcz8_0 : w6.cell? ⟨gb101, 0, none⟩ = some (.bool a0_0) := (blk_cell BK101.out 0).trans rfl; have hcz8_1 : w6.cell? ⟨gb101, 1, none⟩ = some (.slice A0_1 l0_1.length c0_1) := (blk_cell BK101.out 1).trans rfl; have hfz8_0 := blk_frozen BK101.out 0; have hfz8_1 := blk_frozen BK101.out 1; have hcz9_0 : w6.cell? ⟨gb102, 0, none⟩ = some (.bool a1_0) := (blk_cell BK102.out 0).trans rfl; have hcz9_1 : w6.cell? ⟨gb102, 1, none⟩ = some (.slice A1_1 l1_1.length c1_1) := (blk_cell BK102.out 1).trans rfl; have hfz9_0 := blk_frozen BK102.out 0; have hfz9_1 := blk_frozen BK102.out 1) | (go_at_call 36; (with_reducible refine (sorobanref01_Same.calls _ _ l0_1 _ _ l1_1 t103 _ ?side1 ?side2 ?side3 ?side4 A4.out).mono ?_); (case side1 => repeat (first | exact (Kd.C_below HR0_1.out HB.out) | (with_reducible refine Kd.C_alloc ?_ _) | (with_reducible refine Kd.C_drewN ?_ _) | (with_reducible refine Kd.C_drew ?_))); (case side2 => exact HC0_1.out); (case side3 => repeat (first | exact (Kd.C_below HR1_1.out HB.out) | (with_reducible refine Kd.C_alloc ?_ _) | (with_reducible refine Kd.C_drewN ?_ _) | (with_reducible refine Kd.C_drew ?_))); (case side4 => exact HC1_1.out); rintro e w10 ⟨rfl, hb⟩; have n0_ := Aside0.mk (blk_below (g := gb101) (o := .cells #[.bool a0_0, .slice A0_1 l0_1.length c0_1] 48 (0, 0)) (zk BK101.out) hb); have n1_ := Aside0.mk (blk_below (g := gb102) (o := .cells #[.bool a1_0, .slice A1_1 l1_1.length c1_1] 48 (0, 0)) (zk BK102.out) hb); have n2_ := Aside0.mk (below_step (zb HB.out) hb); clear BK101; clear BK102; clear HB; have BK101 := n0_; have BK102 := n1_; have HB := n2_; clear n0_ n1_ n2_; (try clear hb); (try clear hb2); (try clear hk); (try clear hi)))
    go_ret
    exact ⟨by first | rfl | (simp [errW_none, errW_some] <;> rfl) | (simp [*, errW_none, errW_some] <;> rfl), zb HB.out⟩
  · rw [if_neg c3] at H
    have c3b0 : (a0_0 == a1_0) = false := by simpa using c3
    (try (have c3b1 : decide (a0_0 = a1_0) = false := by simpa using c3))
    (try (have c3b2 : (a0_0 == a1_0) = false := by simpa using c3))
    (try (have c3b3 : ¬ (a0_0 = a1_0) := by simpa using c3))
    clear c3
    obtain rfl := Option.some.inj H
    go_enter Tryz.func27, Tryz.ntmps27
    go_wp2_with (first | ((with_reducible refine gate_dst (N := 2) rfl ?_); refine box_event ?hg (N := 2) ?hd (cs := #[.bool a0_0, .slice A0_1 l0_1.length c0_1]) (t := 48) ?hr ?_; (case hd => rfl); (case hg => rfl); (case hr => first | (go_simp; done) | (go_simp; rfl)); intro gb101 hg w11 hbox hb; have n0_ := Aside0.mk (below_step (zb HB.out) hb); have n1_ := Aside0.mk (hbox); have n2_ := Aside0.mk ((by rw [hg]; exact (below_size (zb HB.out)) : w.heap.size ≤ gb101)); have n3_ := Aside0.mk ((by rw [hg]; exact (below_size (zb HB.out)) : w.heap.size ≤ gb101)); clear HB; have HB := n0_; have BK101 := n1_; have GW101 := n2_; have GE101 := n3_; clear n0_ n1_ n2_ n3_; clear hb hbox hg) | ((with_reducible refine gate_dst (N := 3) rfl ?_); refine box_event ?hg (N := 3) ?hd (cs := #[.bool a1_0, .slice A1_1 l1_1.length c1_1]) (t := 48) ?hr ?_; (case hd => rfl); (case hg => rfl); (case hr => first | (go_simp; done) | (go_simp; rfl)); intro gb102 hg w12 hbox hb; have n0_ := Aside0.mk (blk_below (g := gb101) (o := .cells #[.bool a0_0, .slice A0_1 l0_1.length c0_1] 48 (0, 0)) (zk BK101.out) hb); have n1_ := Aside0.mk (below_step (zb HB.out) hb); have n2_ := Aside0.mk (hbox); have n3_ := Aside0.mk ((by rw [hg]; exact (below_size (zb HB.out)) : w.heap.size ≤ gb102)); have n4_ := Aside0.mk ((by rw [hg]; exact (below_size (zb HB.out)) : w.heap.size ≤ gb102)); have n5_ := Aside0.mk ((by rw [hg]; exact Nat.ne_of_lt (blk_lt (g := gb101) (o := .cells #[.bool a0_0, .slice A0_1 l0_1.length c0_1] 48 (0, 0)) (zk BK101.out)) : gb101 ≠ gb102)); have n6_ := Aside0.mk ((by rw [hg]; exact Nat.ne_of_gt (blk_lt (g := gb101) (o := .cells #[.bool a0_0, .slice A0_1 l0_1.length c0_1] 48 (0, 0)) (zk BK101.out)) : gb102 ≠ gb101)); clear BK101; clear HB; have BK101 := n0_; have HB := n1_; have BK102 := n2_; have GW102 := n3_; have GE102 := n4_; have NB101_102 := n5_; have NB102_101 := n6_; clear n0_ n1_ n2_ n3_ n4_ n5_ n6_; clear hb hbox hg; have hnb13 := NB101_102.out; have hnc13 := NB102_101.out; have hcz14_0 : w12.cell? ⟨gb101, 0, none⟩ = some (.bool a0_0) := (blk_cell BK101.out 0).trans rfl; have hcz14_1 : w12.cell? ⟨gb101, 1, none⟩ = some (.slice A0_1 l0_1.length c0_1) := (blk_cell BK101.out 1).trans rfl; have hfz14_0 := blk_frozen BK101.out 0; have hfz14_1 := blk_frozen BK101.out 1; have hcz15_0 : w12.cell? ⟨gb102, 0, none⟩ = some (.bool a1_0) := (blk_cell BK102.out 0).trans rfl; have hcz15_1 : w12.cell? ⟨gb102, 1, none⟩ = some (.slice A1_1 l1_1.length c1_1) := (blk_cell BK102.out 1).trans rfl; have hfz15_0 := blk_frozen BK102.out 0; have hfz15_1 := blk_frozen BK102.out 1))
    go_ret
    exact ⟨by first | rfl | (simp [errW_none, errW_some] <;> rfl) | (simp [*, errW_none, errW_some] <;> rfl), zb HB.out⟩

/-! ### sorobanref05_SameDyad: function 26 -/
def sorobanref05_SameDyad.f (a0_0 : Bool) (l0_1 : List Int) (a0_2 : Int) (a1_0 : Bool) (l1_1 : List Int) (a1_2 : Int) : Option (Bool) := if a0_2 = a1_2 then ((sorobanref05_SameInt.f a0_0 l0_1 a1_0 l1_1).bind fun t106 => (some t106)) else (some false)
set_option maxHeartbeats 8000000 in
set_option maxRecDepth 100000 in
theorem sorobanref05_SameDyad.calls (a0_0 : Bool) (A0_1 : Option Addr) (c0_1 : Nat) (l0_1 : List Int) (a0_2 : Int) (a1_0 : Bool) (A1_1 : Option Addr) (c1_1 : Nat) (l1_1 : List Int) (a1_2 : Int) (r : Bool) (w : World) (hr0_1 : Kd.C (Kd.int .u32) w A0_1 l0_1.length l0_1) (hc0_1 : l0_1.length ≤ c0_1) (hr1_1 : Kd.C (Kd.int .u32) w A1_1 l1_1.length l1_1) (hc1_1 : l1_1.length ≤ c1_1) (h : sorobanref05_SameDyad.f a0_0 l0_1 a0_2 a1_0 l1_1 a1_2 = some r) :
    Calls Tryz.prog 26 #[.agg #[.bool a0_0, .slice A0_1 l0_1.length c0_1, .int .i64 a0_2], .agg #[.bool a1_0, .slice A1_1 l1_1.length c1_1, .int .i64 a1_2]] w fun e w' => e = .returned (.bool r) ∧ Below w.heap.size w w' := by
  have hu50 := Tryz.underlying50
  have hu48 := Tryz.underlying48
  have HR0_1 := Aside0.mk hr0_1
  have HC0_1 := Aside0.mk hc0_1
  clear hr0_1 hc0_1
  have HR1_1 := Aside0.mk hr1_1
  have HC1_1 := Aside0.mk hc1_1
  clear hr1_1 hc1_1
  have HB := Aside0.mk (Below.refl w.heap.size w)
  have H : (if a0_2 = a1_2 then ((sorobanref05_SameInt.f a0_0 l0_1 a1_0 l1_1).bind fun t106 => (some t106)) else (some false)) = some r := h
  clear h
  by_cases c3 : a0_2 = a1_2
  · rw [if_pos c3] at H
    have c3b0 : (a0_2 == a1_2) = true := beq_iff_eq.mpr c3
    have c3b1 : (a0_2 != a1_2) = false := bne_eq_false_iff_eq.mpr c3
    clear c3
    replace H := Option.bind_eq_some_iff.mp H
    obtain ⟨t106, A40, H⟩ := H
    replace H : (some t106) = some r := H
    have A4 := Aside0.mk A40
    clear A40
    obtain rfl := Option.some.inj H
    go_enter Tryz.func26, Tryz.ntmps26
    go_wp2_with (first | ((with_reducible refine gate_dst (N := 2) rfl ?_); refine box_event ?hg (N := 2) ?hd (cs := #[.bool a0_0, .slice A0_1 l0_1.length c0_1, .int .i64 a0_2]) (t := 50) ?hr ?_; (case hd => rfl); (case hg => rfl); (case hr => first | (go_simp; done) | (go_simp; rfl)); intro gb104 hg w5 hbox hb; have n0_ := Aside0.mk (below_step (zb HB.out) hb); have n1_ := Aside0.mk (hbox); have n2_ := Aside0.mk ((by rw [hg]; exact (below_size (zb HB.out)) : w.heap.size ≤ gb104)); have n3_ := Aside0.mk ((by rw [hg]; exact (below_size (zb HB.out)) : w.heap.size ≤ gb104)); clear HB; have HB := n0_; have BK104 := n1_; have GW104 := n2_; have GE104 := n3_; clear n0_ n1_ n2_ n3_; clear hb hbox hg) | ((with_reducible refine gate_dst (N := 3) rfl ?_); refine box_event ?hg (N := 3) ?hd (cs := #[.bool a1_0, .slice A1_1 l1_1.length c1_1, .int .i64 a1_2]) (t := 50) ?hr ?_; (case hd => rfl); (case hg => rfl); (case hr => first | (go_simp; done) | (go_simp; rfl)); intro gb105 hg w6 hbox hb; have n0_ := Aside0.mk (blk_below (g := gb104) (o := .cells #[.bool a0_0, .slice A0_1 l0_1.length c0_1, .int .i64 a0_2] 50 (0, 0)) (zk BK104.out) hb); have n1_ := Aside0.mk (below_step (zb HB.out) hb); have n2_ := Aside0.mk (hbox); have n3_ := Aside0.mk ((by rw [hg]; exact (below_size (zb HB.out)) : w.heap.size ≤ gb105)); have n4_ := Aside0.mk ((by rw [hg]; exact (below_size (zb HB.out)) : w.heap.size ≤ gb105)); have n5_ := Aside0.mk ((by rw [hg]; exact Nat.ne_of_lt (blk_lt (g := gb104) (o := .cells #[.bool a0_0, .slice A0_1 l0_1.length c0_1, .int .i64 a0_2] 50 (0, 0)) (zk BK104.out)) : gb104 ≠ gb105)); have n6_ := Aside0.mk ((by rw [hg]; exact Nat.ne_of_gt (blk_lt (g := gb104) (o := .cells #[.bool a0_0, .slice A0_1 l0_1.length c0_1, .int .i64 a0_2] 50 (0, 0)) (zk BK104.out)) : gb105 ≠ gb104)); clear BK104; clear HB; have BK104 := n0_; have HB := n1_; have BK105 := n2_; have GW105 := n3_; have GE105 := n4_; have NB104_105 := n5_; have NB105_104 := n6_; clear n0_ n1_ n2_ n3_ n4_ n5_ n6_; clear hb hbox hg; have hnb7 := NB104_105.out; have hnc7 := NB105_104.out; have hcz8_0 : w6.cell? ⟨gb104, 0, none⟩ = some (.bool a0_0) := (blk_cell BK104.out 0).trans rfl; have hcz8_1 : w6.cell? ⟨gb104, 1, none⟩ = some (.slice A0_1 l0_1.length c0_1) := (blk_cell BK104.out 1).trans rfl; have hcz8_2 : w6.cell? ⟨gb104, 2, none⟩ = some (.int .i64 a0_2) := (blk_cell BK104.out 2).trans rfl; have hfz8_0 := blk_frozen BK104.out 0; have hfz8_1 := blk_frozen BK104.out 1; have hfz8_2 := blk_frozen BK104.out 2; have hcz9_0 : w6.cell? ⟨gb105, 0, none⟩ = some (.bool a1_0) := (blk_cell BK105.out 0).trans rfl; have hcz9_1 : w6.cell? ⟨gb105, 1, none⟩ = some (.slice A1_1 l1_1.length c1_1) := (blk_cell BK105.out 1).trans rfl; have hcz9_2 : w6.cell? ⟨gb105, 2, none⟩ = some (.int .i64 a1_2) := (blk_cell BK105.out 2).trans rfl; have hfz9_0 := blk_frozen BK105.out 0; have hfz9_1 := blk_frozen BK105.out 1; have hfz9_2 := blk_frozen BK105.out 2) | (go_at_call 27; (with_reducible refine (sorobanref05_SameInt.calls a0_0 _ _ l0_1 a1_0 _ _ l1_1 t106 _ ?side1 ?side2 ?side3 ?side4 A4.out).mono ?_); (case side1 => repeat (first | exact (Kd.C_below HR0_1.out HB.out) | (with_reducible refine Kd.C_alloc ?_ _) | (with_reducible refine Kd.C_drewN ?_ _) | (with_reducible refine Kd.C_drew ?_))); (case side2 => exact HC0_1.out); (case side3 => repeat (first | exact (Kd.C_below HR1_1.out HB.out) | (with_reducible refine Kd.C_alloc ?_ _) | (with_reducible refine Kd.C_drewN ?_ _) | (with_reducible refine Kd.C_drew ?_))); (case side4 => exact HC1_1.out); rintro e w10 ⟨rfl, hb⟩; have n0_ := Aside0.mk (blk_below (g := gb104) (o := .cells #[.bool a0_0, .slice A0_1 l0_1.length c0_1, .int .i64 a0_2] 50 (0, 0)) (zk BK104.out) hb); have n1_ := Aside0.mk (blk_below (g := gb105) (o := .cells #[.bool a1_0, .slice A1_1 l1_1.length c1_1, .int .i64 a1_2] 50 (0, 0)) (zk BK105.out) hb); have n2_ := Aside0.mk (below_step (zb HB.out) hb); clear BK104; clear BK105; clear HB; have BK104 := n0_; have BK105 := n1_; have HB := n2_; clear n0_ n1_ n2_; (try clear hb); (try clear hb2); (try clear hk); (try clear hi)))
    go_ret
    exact ⟨by first | rfl | (simp [errW_none, errW_some] <;> rfl) | (simp [*, errW_none, errW_some] <;> rfl), zb HB.out⟩
  · rw [if_neg c3] at H
    have c3b0 : (a0_2 == a1_2) = false := beq_eq_false_iff_ne.mpr c3
    have c3b1 : (a0_2 != a1_2) = true := bne_iff_ne.mpr c3
    obtain rfl := Option.some.inj H
    go_enter Tryz.func26, Tryz.ntmps26
    go_wp2_with (first | ((with_reducible refine gate_dst (N := 2) rfl ?_); refine box_event ?hg (N := 2) ?hd (cs := #[.bool a0_0, .slice A0_1 l0_1.length c0_1, .int .i64 a0_2]) (t := 50) ?hr ?_; (case hd => rfl); (case hg => rfl); (case hr => first | (go_simp; done) | (go_simp; rfl)); intro gb104 hg w11 hbox hb; have n0_ := Aside0.mk (below_step (zb HB.out) hb); have n1_ := Aside0.mk (hbox); have n2_ := Aside0.mk ((by rw [hg]; exact (below_size (zb HB.out)) : w.heap.size ≤ gb104)); have n3_ := Aside0.mk ((by rw [hg]; exact (below_size (zb HB.out)) : w.heap.size ≤ gb104)); clear HB; have HB := n0_; have BK104 := n1_; have GW104 := n2_; have GE104 := n3_; clear n0_ n1_ n2_ n3_; clear hb hbox hg) | ((with_reducible refine gate_dst (N := 3) rfl ?_); refine box_event ?hg (N := 3) ?hd (cs := #[.bool a1_0, .slice A1_1 l1_1.length c1_1, .int .i64 a1_2]) (t := 50) ?hr ?_; (case hd => rfl); (case hg => rfl); (case hr => first | (go_simp; done) | (go_simp; rfl)); intro gb105 hg w12 hbox hb; have n0_ := Aside0.mk (blk_below (g := gb104) (o := .cells #[.bool a0_0, .slice A0_1 l0_1.length c0_1, .int .i64 a0_2] 50 (0, 0)) (zk BK104.out) hb); have n1_ := Aside0.mk (below_step (zb HB.out) hb); have n2_ := Aside0.mk (hbox); have n3_ := Aside0.mk ((by rw [hg]; exact (below_size (zb HB.out)) : w.heap.size ≤ gb105)); have n4_ := Aside0.mk ((by rw [hg]; exact (below_size (zb HB.out)) : w.heap.size ≤ gb105)); have n5_ := Aside0.mk ((by rw [hg]; exact Nat.ne_of_lt (blk_lt (g := gb104) (o := .cells #[.bool a0_0, .slice A0_1 l0_1.length c0_1, .int .i64 a0_2] 50 (0, 0)) (zk BK104.out)) : gb104 ≠ gb105)); have n6_ := Aside0.mk ((by rw [hg]; exact Nat.ne_of_gt (blk_lt (g := gb104) (o := .cells #[.bool a0_0, .slice A0_1 l0_1.length c0_1, .int .i64 a0_2] 50 (0, 0)) (zk BK104.out)) : gb105 ≠ gb104)); clear BK104; clear HB; have BK104 := n0_; have HB := n1_; have BK105 := n2_; have GW105 := n3_; have GE105 := n4_; have NB104_105 := n5_; have NB105_104 := n6_; clear n0_ n1_ n2_ n3_ n4_ n5_ n6_; clear hb hbox hg; have hnb13 := NB104_105.out; have hnc13 := NB105_104.out; have hcz14_0 : w12.cell? ⟨gb104, 0, none⟩ = some (.bool a0_0) := (blk_cell BK104.out 0).trans rfl; have hcz14_1 : w12.cell? ⟨gb104, 1, none⟩ = some (.slice A0_1 l0_1.length c0_1) := (blk_cell BK104.out 1).trans rfl; have hcz14_2 : w12.cell? ⟨gb104, 2, none⟩ = some (.int .i64 a0_2) := (blk_cell BK104.out 2).trans rfl; have hfz14_0 := blk_frozen BK104.out 0; have hfz14_1 := blk_frozen BK104.out 1; have hfz14_2 := blk_frozen BK104.out 2; have hcz15_0 : w12.cell? ⟨gb105, 0, none⟩ = some (.bool a1_0) := (blk_cell BK105.out 0).trans rfl; have hcz15_1 : w12.cell? ⟨gb105, 1, none⟩ = some (.slice A1_1 l1_1.length c1_1) := (blk_cell BK105.out 1).trans rfl; have hcz15_2 : w12.cell? ⟨gb105, 2, none⟩ = some (.int .i64 a1_2) := (blk_cell BK105.out 2).trans rfl; have hfz15_0 := blk_frozen BK105.out 0; have hfz15_1 := blk_frozen BK105.out 1; have hfz15_2 := blk_frozen BK105.out 2))
    go_ret
    exact ⟨by first | rfl | (simp [errW_none, errW_some] <;> rfl) | (simp [*, errW_none, errW_some] <;> rfl), zb HB.out⟩

end Go.Proofs.YtacnkcojhlbkoaaGreatDoor.XSdy

namespace Go.Proofs.YtacnkcojhlbkoaaGreatDoor.XIsb
open Go.RowKit Go.Proofs.YtacnkcojhlbkoaaGreatDoorW.PrintWords Go.Proofs.YtacnkcojhlbkoaaGreatDoorW.PrintLast Go.Proofs.YtacnkcojhlbkoaaGreatDoorW.PrintMore
attribute [local go_sem] max2_int min2_int max_two min_two max_three min_three max_four min_four   -- for this text's walks alone
set_option linter.unusedVariables false
set_option linter.unusedSimpArgs false

def errW : Option Int → Value
  | none => .nilIface
  | some c => .iface 0 (.int .i64 c)
theorem errW_none : errW none = .nilIface := rfl
theorem errW_some (c : Int) : errW (some c) = .iface 0 (.int .i64 c) := rfl

-- the values' own types

end Go.Proofs.YtacnkcojhlbkoaaGreatDoor.XIsb
