/- binary: At: its walk, in cases. binary: At: what it returns, of numbers. -/
import Derived.Test.YtacnkcojhlbkoaaGreatDoorJVal14
import Derived.Test.YtacnkcojhlbkoaaGreatDoorJVal15
import Derived.Test.YtacnkcojhlbkoaaGreatDoorJVal16
import Derived.Test.YtacnkcojhlbkoaaGreatDoorJVal23
set_option linter.unusedSimpArgs false
set_option linter.unusedVariables false
set_option linter.unnecessarySimpa false
namespace Go.Proofs.YtacnkcojhlbkoaaGreatDoor
open Go.RowKit Go.Proofs.YtacnkcojhlbkoaaGreatDoorW.PrintWords Go.Proofs.YtacnkcojhlbkoaaGreatDoorW.PrintLast Go.Proofs.YtacnkcojhlbkoaaGreatDoorW.PrintMore Go.Proofs.YtacnkcojhlbkoaaGreatDoor.NL
set_option maxRecDepth 100000
set_option exponentiation.threshold 33000

set_option maxHeartbeats 8000000 in
theorem at_no {f : Int} {ng : Bool} {A : Option Addr} {n c : Nat} (w : World)
    (HK : Hid (∀ w', Calls Tryz.prog 41 #[.int .i64 f] w' fun e w'' => e = .panicked (binFail 1) ∧ Below w'.heap.size w' w'')) :
    Calls Tryz.prog 23 #[.int .i64 f, .agg #[.bool ng, .slice A n c]] w (DatumE 0 0 false [] 0 1 w) := by
  go_enter_defers Tryz.func23, Tryz.ntmps23
  go_wp2_with (first | fail | (go_at_call 41; (with_reducible refine (HK.out _).mono ?_); rintro e w1 ⟨rfl, b1⟩))
  (refine leaves_cons (f := 39) (args := #[.pointer (some ⟨w.heap.size + 1 + 1, 0, none⟩)]) (by simp) (by simp [go_sem]) ?_; refine (bcaught_panic (w.heap.size + 1 + 1) (1) 0 [] _ (BlkIs.one blk0)).mono ?_; rintro e u' w'' ⟨rfl, rfl, hch, hp⟩; have hp' : BlkIs w'' (w.heap.size + 1 + 1) 28 (· = #[.int .i64 (1)]) := ⟨_, hp, rfl⟩)
  have hd : BlkIs w'' (w.heap.size + 1) 25 (· = #[.int .i64 0, .int .i64 0, .bool false, .slice none 0 0, .int .i64 0]) := blk0
  exact ⟨.tuple #[.agg #[.int .i64 0, .int .i64 0, .bool false, .slice none 0 0, .int .i64 0], .int .i64 1], rresults (rs := [.cell 4 25, .cell 5 28]) rfl (by simp) (.cell (w.heap.size + 1) rfl (load_agg (t := 25) hd Tryz.underlying25 rfl (by kernel_rfl)) (.cell (w.heap.size + 1 + 1) rfl (load_one (t := 28) hp' (by kernel_rfl)) .nil)), .slice none 0 0, rfl, Kd.R_nil _ _ _ _ _, below_chg bel hch (by omega)⟩
set_option maxHeartbeats 8000000 in
theorem at_bad {f D E L H W : Int} {ng : Bool} {A : Option Addr} {n c : Nat} (w : World)
    (HK : Hid (∀ w', Calls Tryz.prog 41 #[.int .i64 f] w' fun e w'' => e = .returned (.agg #[.int .i64 D, .int .i64 E, .int .i64 L, .int .i64 H, .int .i64 W, .int .i64 f]) ∧ Below w'.heap.size w' w''))
    (HV : Hid (∀ w', Below w.heap.size w w' → Calls Tryz.prog 62 #[.slice A n c] w' fun e w'' => e = .returned (.bool false) ∧ w' = w'')) :
    Calls Tryz.prog 23 #[.int .i64 f, .agg #[.bool ng, .slice A n c]] w (DatumE 0 0 false [] 0 1 w) := by
  go_enter_defers Tryz.func23, Tryz.ntmps23
  go_wp2_with (first | fail | (go_at_call 41; (with_reducible refine (HK.out _).mono ?_); rintro e w1 ⟨rfl, b1⟩; obtain ⟨hc1, hf1⟩ := bcell b1; have hz1 := below_size b1; (try simp at hz1); have zz1_0 : w.heap.size < w1.heap.size := (by omega); have zz1_1 : w.heap.size + 1 < w1.heap.size := (by omega); have zz1_2 : w.heap.size + 1 + 1 < w1.heap.size := (by omega)) | (go_at_call 62; (with_reducible refine (HV.out _ bel).mono ?_); rintro e w9 ⟨rfl, rfl⟩) | (go_at_call 40; (with_reducible refine (bneed_false _ _).mono ?_); rintro e w9 ⟨rfl, rfl⟩))
  (refine leaves_cons (f := 39) (args := #[.pointer (some ⟨w.heap.size + 1 + 1, 0, none⟩)]) (by simp) (by simp [go_sem]) ?_; refine (bcaught_panic (w.heap.size + 1 + 1) (1) 0 [] _ (BlkIs.one blk0)).mono ?_; rintro e u' w'' ⟨rfl, rfl, hch, hp⟩; have hp' : BlkIs w'' (w.heap.size + 1 + 1) 28 (· = #[.int .i64 (1)]) := ⟨_, hp, rfl⟩)
  have hd : BlkIs w'' (w.heap.size + 1) 25 (· = #[.int .i64 0, .int .i64 0, .bool false, .slice none 0 0, .int .i64 0]) := blk0
  exact ⟨.tuple #[.agg #[.int .i64 0, .int .i64 0, .bool false, .slice none 0 0, .int .i64 0], .int .i64 1], rresults (rs := [.cell 4 25, .cell 5 28]) rfl (by simp) (.cell (w.heap.size + 1) rfl (load_agg (t := 25) hd Tryz.underlying25 rfl (by kernel_rfl)) (.cell (w.heap.size + 1 + 1) rfl (load_one (t := 28) hp' (by kernel_rfl)) .nil)), .slice none 0 0, rfl, Kd.R_nil _ _ _ _ _, below_chg bel hch (by omega)⟩
set_option maxHeartbeats 8000000 in
theorem at_neg {f D E L H W : Int} {A : Option Addr} {c : Nat} (w : World)
    (HK : Hid (∀ w', Calls Tryz.prog 41 #[.int .i64 f] w' fun e w'' => e = .returned (.agg #[.int .i64 D, .int .i64 E, .int .i64 L, .int .i64 H, .int .i64 W, .int .i64 f]) ∧ Below w'.heap.size w' w''))
    (HV : Hid (∀ w', Below w.heap.size w w' → Calls Tryz.prog 62 #[.slice A 0 c] w' fun e w'' => e = .returned (.bool true) ∧ w' = w'')) :
    Calls Tryz.prog 23 #[.int .i64 f, .agg #[.bool true, .slice A 0 c]] w (DatumE 0 0 false [] 0 1 w) := by
  go_enter_defers Tryz.func23, Tryz.ntmps23
  go_wp2_with (first | fail | (go_at_call 41; (with_reducible refine (HK.out _).mono ?_); rintro e w1 ⟨rfl, b1⟩; obtain ⟨hc1, hf1⟩ := bcell b1; have hz1 := below_size b1; (try simp at hz1); have zz1_0 : w.heap.size < w1.heap.size := (by omega); have zz1_1 : w.heap.size + 1 < w1.heap.size := (by omega); have zz1_2 : w.heap.size + 1 + 1 < w1.heap.size := (by omega)) | (go_at_call 62; (with_reducible refine (HV.out _ bel).mono ?_); rintro e w9 ⟨rfl, rfl⟩) | (go_at_call 40; (with_reducible refine (bneed_false _ _).mono ?_); rintro e w9 ⟨rfl, rfl⟩))
  (refine leaves_cons (f := 39) (args := #[.pointer (some ⟨w.heap.size + 1 + 1, 0, none⟩)]) (by simp) (by simp [go_sem]) ?_; refine (bcaught_panic (w.heap.size + 1 + 1) (1) 0 [] _ (BlkIs.one blk0)).mono ?_; rintro e u' w'' ⟨rfl, rfl, hch, hp⟩; have hp' : BlkIs w'' (w.heap.size + 1 + 1) 28 (· = #[.int .i64 (1)]) := ⟨_, hp, rfl⟩)
  have hd : BlkIs w'' (w.heap.size + 1) 25 (· = #[.int .i64 0, .int .i64 0, .bool false, .slice none 0 0, .int .i64 0]) := blk0
  exact ⟨.tuple #[.agg #[.int .i64 0, .int .i64 0, .bool false, .slice none 0 0, .int .i64 0], .int .i64 1], rresults (rs := [.cell 4 25, .cell 5 28]) rfl (by simp) (.cell (w.heap.size + 1) rfl (load_agg (t := 25) hd Tryz.underlying25 rfl (by kernel_rfl)) (.cell (w.heap.size + 1 + 1) rfl (load_one (t := 28) hp' (by kernel_rfl)) .nil)), .slice none 0 0, rfl, Kd.R_nil _ _ _ _ _, below_chg bel hch (by omega)⟩
set_option maxHeartbeats 8000000 in
theorem at_far {f D E L H W : Int} {ng : Bool} {A : Option Addr} {n c : Nat} {l : List Int} {es : List Int} (w : World)
    (HK : Hid (∀ w', Calls Tryz.prog 41 #[.int .i64 f] w' fun e w'' => e = .returned (.agg #[.int .i64 D, .int .i64 E, .int .i64 L, .int .i64 H, .int .i64 W, .int .i64 f]) ∧ Below w'.heap.size w' w''))
    (HV : Hid (∀ w', Below w.heap.size w w' → Calls Tryz.prog 62 #[.slice A n c] w' fun e w'' => e = .returned (.bool true) ∧ w' = w''))
    (hA : Kd.C (Kd.int .u32) w A n l) (hn : ng = true → 0 < n)
    (HI : Hid (∀ w', Calls Tryz.prog 22 #[.agg #[.int .i64 f, .int .i64 2, .bool false, .slice none 0 0, .int .i64 0]] w' (IntE false es 0 w')))
    (HCM : Hid (∀ A2 c2 w', Kd.C (Kd.int .u32) w' A n l → Kd.C (Kd.int .u32) w' A2 es.length es → es.length ≤ c2 → Calls Tryz.prog 63 #[.slice A n c, .slice A2 es.length c2] w' fun e w'' => e = .returned (.tuple #[.int .i64 1, .int .i64 0]) ∧ Below w'.heap.size w' w'')) :
    Calls Tryz.prog 23 #[.int .i64 f, .agg #[.bool ng, .slice A n c]] w (DatumE 0 0 false [] 0 3 w) := by
  have HC0 := Lib.hid hA
  clear hA
  cases ng
  · clear hn
    go_enter_defers Tryz.func23, Tryz.ntmps23
    go_wp2_with (first | fail | (go_at_call 41; (with_reducible refine (HK.out _).mono ?_); rintro e w1 ⟨rfl, b1⟩; obtain ⟨hc1, hf1⟩ := bcell b1; have hz1 := below_size b1; (try simp at hz1); have zz1_0 : w.heap.size < w1.heap.size := (by omega); have zz1_1 : w.heap.size + 1 < w1.heap.size := (by omega); have zz1_2 : w.heap.size + 1 + 1 < w1.heap.size := (by omega)) | (go_at_call 62; (with_reducible refine (HV.out _ bel).mono ?_); rintro e w9 ⟨rfl, rfl⟩) | (go_at_call 40; (with_reducible refine (bneed_true _ _).mono ?_); rintro e w9 ⟨rfl, rfl⟩) | (go_at_call 22; (with_reducible refine (HI.out _).mono ?_); rintro e w2 ⟨v2, rfl, hv2, b2⟩; obtain ⟨A2, c2, rfl⟩ := Kd.R_slice hv2; have HC2 := Lib.hid (R_C hv2); clear hv2; obtain ⟨hc2, hf2⟩ := bcell b2; have hz2 := below_size b2; (try simp at hz2); have zz2_0 : w.heap.size < w2.heap.size := (by omega); have zz2_1 : w.heap.size + 1 < w2.heap.size := (by omega); have zz2_2 : w.heap.size + 1 + 1 < w2.heap.size := (by omega); have zz2_3 : w1.heap.size < w2.heap.size := (by omega)) | (go_at_call 63; (with_reducible refine (HCM.out _ _ _ (Kd.C_below HC0.out bel) (Kd.C_below HC2.out.1 bel) HC2.out.2).mono ?_); rintro e w3 ⟨rfl, b3⟩; obtain ⟨hc3, hf3⟩ := bcell b3; have hz3 := below_size b3; (try simp at hz3); have zz3_0 : w.heap.size < w3.heap.size := (by omega); have zz3_1 : w.heap.size + 1 < w3.heap.size := (by omega); have zz3_2 : w.heap.size + 1 + 1 < w3.heap.size := (by omega); have zz3_3 : w1.heap.size < w3.heap.size := (by omega); have zz3_4 : w2.heap.size < w3.heap.size := (by omega)) | (go_at_call 40; (with_reducible refine (bneed_false _ _).mono ?_); rintro e w9 ⟨rfl, rfl⟩))
    (refine leaves_cons (f := 39) (args := #[.pointer (some ⟨w.heap.size + 1 + 1, 0, none⟩)]) (by simp) (by simp [go_sem]) ?_; refine (bcaught_panic (w.heap.size + 1 + 1) (3) 0 [] _ (BlkIs.one blk0)).mono ?_; rintro e u' w'' ⟨rfl, rfl, hch, hp⟩; have hp' : BlkIs w'' (w.heap.size + 1 + 1) 28 (· = #[.int .i64 (3)]) := ⟨_, hp, rfl⟩)
    have hd : BlkIs w'' (w.heap.size + 1) 25 (· = #[.int .i64 0, .int .i64 0, .bool false, .slice none 0 0, .int .i64 0]) := blk0
    exact ⟨.tuple #[.agg #[.int .i64 0, .int .i64 0, .bool false, .slice none 0 0, .int .i64 0], .int .i64 3], rresults (rs := [.cell 4 25, .cell 5 28]) rfl (by simp) (.cell (w.heap.size + 1) rfl (load_agg (t := 25) hd Tryz.underlying25 rfl (by kernel_rfl)) (.cell (w.heap.size + 1 + 1) rfl (load_one (t := 28) hp' (by kernel_rfl)) .nil)), .slice none 0 0, rfl, Kd.R_nil _ _ _ _ _, below_chg bel hch (by omega)⟩
  · have dn : decide ((n : Int) > 0) = true := decide_eq_true (by have := hn rfl; omega)
    have dn2 : decide (0 < n) = true := decide_eq_true (hn rfl)
    have dn3 : decide (0 < (n : Int)) = true := decide_eq_true (by have := hn rfl; omega)
    clear hn
    go_enter_defers Tryz.func23, Tryz.ntmps23
    go_wp2_with (first | fail | (go_at_call 41; (with_reducible refine (HK.out _).mono ?_); rintro e w1 ⟨rfl, b1⟩; obtain ⟨hc1, hf1⟩ := bcell b1; have hz1 := below_size b1; (try simp at hz1); have zz1_0 : w.heap.size < w1.heap.size := (by omega); have zz1_1 : w.heap.size + 1 < w1.heap.size := (by omega); have zz1_2 : w.heap.size + 1 + 1 < w1.heap.size := (by omega)) | (go_at_call 62; (with_reducible refine (HV.out _ bel).mono ?_); rintro e w9 ⟨rfl, rfl⟩) | (go_at_call 40; (with_reducible refine (bneed_true _ _).mono ?_); rintro e w9 ⟨rfl, rfl⟩) | (go_at_call 22; (with_reducible refine (HI.out _).mono ?_); rintro e w2 ⟨v2, rfl, hv2, b2⟩; obtain ⟨A2, c2, rfl⟩ := Kd.R_slice hv2; have HC2 := Lib.hid (R_C hv2); clear hv2; obtain ⟨hc2, hf2⟩ := bcell b2; have hz2 := below_size b2; (try simp at hz2); have zz2_0 : w.heap.size < w2.heap.size := (by omega); have zz2_1 : w.heap.size + 1 < w2.heap.size := (by omega); have zz2_2 : w.heap.size + 1 + 1 < w2.heap.size := (by omega); have zz2_3 : w1.heap.size < w2.heap.size := (by omega)) | (go_at_call 63; (with_reducible refine (HCM.out _ _ _ (Kd.C_below HC0.out bel) (Kd.C_below HC2.out.1 bel) HC2.out.2).mono ?_); rintro e w3 ⟨rfl, b3⟩; obtain ⟨hc3, hf3⟩ := bcell b3; have hz3 := below_size b3; (try simp at hz3); have zz3_0 : w.heap.size < w3.heap.size := (by omega); have zz3_1 : w.heap.size + 1 < w3.heap.size := (by omega); have zz3_2 : w.heap.size + 1 + 1 < w3.heap.size := (by omega); have zz3_3 : w1.heap.size < w3.heap.size := (by omega); have zz3_4 : w2.heap.size < w3.heap.size := (by omega)) | (go_at_call 40; (with_reducible refine (bneed_false _ _).mono ?_); rintro e w9 ⟨rfl, rfl⟩))
    (refine leaves_cons (f := 39) (args := #[.pointer (some ⟨w.heap.size + 1 + 1, 0, none⟩)]) (by simp) (by simp [go_sem]) ?_; refine (bcaught_panic (w.heap.size + 1 + 1) (3) 0 [] _ (BlkIs.one blk0)).mono ?_; rintro e u' w'' ⟨rfl, rfl, hch, hp⟩; have hp' : BlkIs w'' (w.heap.size + 1 + 1) 28 (· = #[.int .i64 (3)]) := ⟨_, hp, rfl⟩)
    have hd : BlkIs w'' (w.heap.size + 1) 25 (· = #[.int .i64 0, .int .i64 0, .bool false, .slice none 0 0, .int .i64 0]) := blk0
    exact ⟨.tuple #[.agg #[.int .i64 0, .int .i64 0, .bool false, .slice none 0 0, .int .i64 0], .int .i64 3], rresults (rs := [.cell 4 25, .cell 5 28]) rfl (by simp) (.cell (w.heap.size + 1) rfl (load_agg (t := 25) hd Tryz.underlying25 rfl (by kernel_rfl)) (.cell (w.heap.size + 1 + 1) rfl (load_one (t := 28) hp' (by kernel_rfl)) .nil)), .slice none 0 0, rfl, Kd.R_nil _ _ _ _ _, below_chg bel hch (by omega)⟩
set_option maxHeartbeats 8000000 in
theorem at_inf {f D E L H W : Int} {ng : Bool} {A : Option Addr} {n c : Nat} {l : List Int} {es : List Int} (w : World)
    (HK : Hid (∀ w', Calls Tryz.prog 41 #[.int .i64 f] w' fun e w'' => e = .returned (.agg #[.int .i64 D, .int .i64 E, .int .i64 L, .int .i64 H, .int .i64 W, .int .i64 f]) ∧ Below w'.heap.size w' w''))
    (HV : Hid (∀ w', Below w.heap.size w w' → Calls Tryz.prog 62 #[.slice A n c] w' fun e w'' => e = .returned (.bool true) ∧ w' = w''))
    (hA : Kd.C (Kd.int .u32) w A n l) (hn : ng = true → 0 < n)
    (HI : Hid (∀ w', Calls Tryz.prog 22 #[.agg #[.int .i64 f, .int .i64 2, .bool false, .slice none 0 0, .int .i64 0]] w' (IntE false es 0 w')))
    (HCM : Hid (∀ A2 c2 w', Kd.C (Kd.int .u32) w' A n l → Kd.C (Kd.int .u32) w' A2 es.length es → es.length ≤ c2 → Calls Tryz.prog 63 #[.slice A n c, .slice A2 es.length c2] w' fun e w'' => e = .returned (.tuple #[.int .i64 0, .int .i64 0]) ∧ Below w'.heap.size w' w'')) :
    Calls Tryz.prog 23 #[.int .i64 f, .agg #[.bool ng, .slice A n c]] w (DatumE f 2 ng [] 0 0 w) := by
  have HC0 := Lib.hid hA
  clear hA
  cases ng
  · clear hn
    go_enter_defers Tryz.func23, Tryz.ntmps23
    go_wp2_with (first | fail | (go_at_call 41; (with_reducible refine (HK.out _).mono ?_); rintro e w1 ⟨rfl, b1⟩; obtain ⟨hc1, hf1⟩ := bcell b1; have hz1 := below_size b1; (try simp at hz1); have zz1_0 : w.heap.size < w1.heap.size := (by omega); have zz1_1 : w.heap.size + 1 < w1.heap.size := (by omega); have zz1_2 : w.heap.size + 1 + 1 < w1.heap.size := (by omega)) | (go_at_call 62; (with_reducible refine (HV.out _ bel).mono ?_); rintro e w9 ⟨rfl, rfl⟩) | (go_at_call 40; (with_reducible refine (bneed_true _ _).mono ?_); rintro e w9 ⟨rfl, rfl⟩) | (go_at_call 22; (with_reducible refine (HI.out _).mono ?_); rintro e w2 ⟨v2, rfl, hv2, b2⟩; obtain ⟨A2, c2, rfl⟩ := Kd.R_slice hv2; have HC2 := Lib.hid (R_C hv2); clear hv2; obtain ⟨hc2, hf2⟩ := bcell b2; have hz2 := below_size b2; (try simp at hz2); have zz2_0 : w.heap.size < w2.heap.size := (by omega); have zz2_1 : w.heap.size + 1 < w2.heap.size := (by omega); have zz2_2 : w.heap.size + 1 + 1 < w2.heap.size := (by omega); have zz2_3 : w1.heap.size < w2.heap.size := (by omega)) | (go_at_call 63; (with_reducible refine (HCM.out _ _ _ (Kd.C_below HC0.out bel) (Kd.C_below HC2.out.1 bel) HC2.out.2).mono ?_); rintro e w3 ⟨rfl, b3⟩; obtain ⟨hc3, hf3⟩ := bcell b3; have hz3 := below_size b3; (try simp at hz3); have zz3_0 : w.heap.size < w3.heap.size := (by omega); have zz3_1 : w.heap.size + 1 < w3.heap.size := (by omega); have zz3_2 : w.heap.size + 1 + 1 < w3.heap.size := (by omega); have zz3_3 : w1.heap.size < w3.heap.size := (by omega); have zz3_4 : w2.heap.size < w3.heap.size := (by omega)))
    (refine leaves_cons (f := 39) (args := #[.pointer (some ⟨w.heap.size + 1 + 1, 0, none⟩)]) (by simp) (by simp [go_sem]) ?_; refine (bcaught_idle _ _).mono ?_; rintro e u' w'' ⟨rfl, rfl, rfl⟩)
    exact ⟨.tuple #[.agg #[.int .i64 f, .int .i64 2, .bool false, .slice none 0 0, .int .i64 0], .int .i64 0], rresults (rs := [.cell 4 25, .cell 5 28]) rfl (by simp) (.cell (w.heap.size + 1) rfl (load_agg (t := 25) blk0 Tryz.underlying25 rfl (by kernel_rfl)) (.cell (w.heap.size + 1 + 1) rfl (load_one (t := 28) blk0 (by kernel_rfl)) .nil)), _, rfl, Kd.R_nil _ _ _ _ _, bel⟩
  · have dn : decide ((n : Int) > 0) = true := decide_eq_true (by have := hn rfl; omega)
    have dn2 : decide (0 < n) = true := decide_eq_true (hn rfl)
    have dn3 : decide (0 < (n : Int)) = true := decide_eq_true (by have := hn rfl; omega)
    clear hn
    go_enter_defers Tryz.func23, Tryz.ntmps23
    go_wp2_with (first | fail | (go_at_call 41; (with_reducible refine (HK.out _).mono ?_); rintro e w1 ⟨rfl, b1⟩; obtain ⟨hc1, hf1⟩ := bcell b1; have hz1 := below_size b1; (try simp at hz1); have zz1_0 : w.heap.size < w1.heap.size := (by omega); have zz1_1 : w.heap.size + 1 < w1.heap.size := (by omega); have zz1_2 : w.heap.size + 1 + 1 < w1.heap.size := (by omega)) | (go_at_call 62; (with_reducible refine (HV.out _ bel).mono ?_); rintro e w9 ⟨rfl, rfl⟩) | (go_at_call 40; (with_reducible refine (bneed_true _ _).mono ?_); rintro e w9 ⟨rfl, rfl⟩) | (go_at_call 22; (with_reducible refine (HI.out _).mono ?_); rintro e w2 ⟨v2, rfl, hv2, b2⟩; obtain ⟨A2, c2, rfl⟩ := Kd.R_slice hv2; have HC2 := Lib.hid (R_C hv2); clear hv2; obtain ⟨hc2, hf2⟩ := bcell b2; have hz2 := below_size b2; (try simp at hz2); have zz2_0 : w.heap.size < w2.heap.size := (by omega); have zz2_1 : w.heap.size + 1 < w2.heap.size := (by omega); have zz2_2 : w.heap.size + 1 + 1 < w2.heap.size := (by omega); have zz2_3 : w1.heap.size < w2.heap.size := (by omega)) | (go_at_call 63; (with_reducible refine (HCM.out _ _ _ (Kd.C_below HC0.out bel) (Kd.C_below HC2.out.1 bel) HC2.out.2).mono ?_); rintro e w3 ⟨rfl, b3⟩; obtain ⟨hc3, hf3⟩ := bcell b3; have hz3 := below_size b3; (try simp at hz3); have zz3_0 : w.heap.size < w3.heap.size := (by omega); have zz3_1 : w.heap.size + 1 < w3.heap.size := (by omega); have zz3_2 : w.heap.size + 1 + 1 < w3.heap.size := (by omega); have zz3_3 : w1.heap.size < w3.heap.size := (by omega); have zz3_4 : w2.heap.size < w3.heap.size := (by omega)))
    (refine leaves_cons (f := 39) (args := #[.pointer (some ⟨w.heap.size + 1 + 1, 0, none⟩)]) (by simp) (by simp [go_sem]) ?_; refine (bcaught_idle _ _).mono ?_; rintro e u' w'' ⟨rfl, rfl, rfl⟩)
    exact ⟨.tuple #[.agg #[.int .i64 f, .int .i64 2, .bool true, .slice none 0 0, .int .i64 0], .int .i64 0], rresults (rs := [.cell 4 25, .cell 5 28]) rfl (by simp) (.cell (w.heap.size + 1) rfl (load_agg (t := 25) blk0 Tryz.underlying25 rfl (by kernel_rfl)) (.cell (w.heap.size + 1 + 1) rfl (load_one (t := 28) blk0 (by kernel_rfl)) .nil)), _, rfl, Kd.R_nil _ _ _ _ _, bel⟩
set_option maxHeartbeats 8000000 in
theorem at_sub {f D E L H W D1 : Int} {ng : Bool} {A : Option Addr} {n c : Nat} {l : List Int} {es : List Int} {ps : List Int} {qs : List Int} {rs : List Int} (w : World)
    (HK : Hid (∀ w', Calls Tryz.prog 41 #[.int .i64 f] w' fun e w'' => e = .returned (.agg #[.int .i64 D, .int .i64 E, .int .i64 L, .int .i64 H, .int .i64 W, .int .i64 f]) ∧ Below w'.heap.size w' w''))
    (HV : Hid (∀ w', Below w.heap.size w w' → Calls Tryz.prog 62 #[.slice A n c] w' fun e w'' => e = .returned (.bool true) ∧ w' = w''))
    (hA : Kd.C (Kd.int .u32) w A n l) (hn : ng = true → 0 < n)
    (HI : Hid (∀ w', Calls Tryz.prog 22 #[.agg #[.int .i64 f, .int .i64 2, .bool false, .slice none 0 0, .int .i64 0]] w' (IntE false es 0 w')))
    (HCM : Hid (∀ A2 c2 w', Kd.C (Kd.int .u32) w' A n l → Kd.C (Kd.int .u32) w' A2 es.length es → es.length ≤ c2 → Calls Tryz.prog 63 #[.slice A n c, .slice A2 es.length c2] w' fun e w'' => e = .returned (.tuple #[.int .i64 (-1), .int .i64 0]) ∧ Below w'.heap.size w' w''))
    (hD1 : IntKind.i64.wrap (D - 1) = D1)
    (HPW : Hid (∀ w', Calls Tryz.prog 50 #[.int .i64 D1] w' (NewRow w' ps)))
    (HDV : Hid (∀ A2 c2 w', Kd.C (Kd.int .u32) w' A n l → Kd.C (Kd.int .u32) w' A2 ps.length ps → ps.length ≤ c2 → Calls Tryz.prog 64 #[.slice A n c, .slice A2 ps.length c2] w' (NumErr2 qs rs 0 w')))
    (HTU : Hid (∀ A2 c2 w', Kd.C (Kd.int .u32) w' A2 qs.length qs → qs.length ≤ c2 → Calls Tryz.prog 65 #[.slice A2 qs.length c2] w' fun e w'' => e = .returned (.tuple #[.int .u64 0, .int .i64 0]) ∧ w' = w''))
    (HFN : Hid (∀ w', Kd.C (Kd.int .u32) w' A n l → Calls Tryz.prog 66 #[.agg #[.int .i64 D, .int .i64 E, .int .i64 L, .int .i64 H, .int .i64 W, .int .i64 f], .bool ng, .slice A n c, .int .i64 L] w' (DatumP f 1 ng l L w'))) :
    Calls Tryz.prog 23 #[.int .i64 f, .agg #[.bool ng, .slice A n c]] w (DatumE f 1 ng l L 0 w) := by
  have HC0 := Lib.hid hA
  clear hA
  cases ng
  · clear hn
    go_enter_defers Tryz.func23, Tryz.ntmps23
    go_wp2_with (first | fail | (go_at_call 41; (with_reducible refine (HK.out _).mono ?_); rintro e w1 ⟨rfl, b1⟩; obtain ⟨hc1, hf1⟩ := bcell b1; have hz1 := below_size b1; (try simp at hz1); have zz1_0 : w.heap.size < w1.heap.size := (by omega); have zz1_1 : w.heap.size + 1 < w1.heap.size := (by omega); have zz1_2 : w.heap.size + 1 + 1 < w1.heap.size := (by omega)) | (go_at_call 62; (with_reducible refine (HV.out _ bel).mono ?_); rintro e w9 ⟨rfl, rfl⟩) | (go_at_call 40; (with_reducible refine (bneed_true _ _).mono ?_); rintro e w9 ⟨rfl, rfl⟩) | (go_at_call 22; (with_reducible refine (HI.out _).mono ?_); rintro e w2 ⟨v2, rfl, hv2, b2⟩; obtain ⟨A2, c2, rfl⟩ := Kd.R_slice hv2; have HC2 := Lib.hid (R_C hv2); clear hv2; obtain ⟨hc2, hf2⟩ := bcell b2; have hz2 := below_size b2; (try simp at hz2); have zz2_0 : w.heap.size < w2.heap.size := (by omega); have zz2_1 : w.heap.size + 1 < w2.heap.size := (by omega); have zz2_2 : w.heap.size + 1 + 1 < w2.heap.size := (by omega); have zz2_3 : w1.heap.size < w2.heap.size := (by omega)) | (go_at_call 63; (with_reducible refine (HCM.out _ _ _ (Kd.C_below HC0.out bel) (Kd.C_below HC2.out.1 bel) HC2.out.2).mono ?_); rintro e w3 ⟨rfl, b3⟩; obtain ⟨hc3, hf3⟩ := bcell b3; have hz3 := below_size b3; (try simp at hz3); have zz3_0 : w.heap.size < w3.heap.size := (by omega); have zz3_1 : w.heap.size + 1 < w3.heap.size := (by omega); have zz3_2 : w.heap.size + 1 + 1 < w3.heap.size := (by omega); have zz3_3 : w1.heap.size < w3.heap.size := (by omega); have zz3_4 : w2.heap.size < w3.heap.size := (by omega)))
    go_region_held3 (fun w' => Below (w3).heap.size (w3) w' ∧ ∀ b o, b < (w3).heap.size → w'.cell? ⟨b, o, none⟩ = (w3).cell? ⟨b, o, none⟩) (first | ((try go_split_ands); refine below_S ?_; ((repeat (first | with_reducible assumption | with_reducible exact Below.refl _ _ | with_reducible refine below_alloc ?_ _ | with_reducible refine pw_below_drewN ?_ _ | with_reducible refine below_drew1 ?_ | ((with_reducible refine below_set ?_ ?hle); (case hle => first | (simp; done) | omega | (simp; omega))) | with_reducible refine below_step ?_ (by with_reducible assumption))); done))) (first | (go_at_call 50; (with_reducible refine (HPW.out _).mono ?_); rintro e w4 ⟨v4, rfl, hv4, b4⟩; obtain ⟨A4, c4, rfl⟩ := Kd.R_slice hv4; have HC4 := Lib.hid (R_C hv4); clear hv4; obtain ⟨hc4, hf4⟩ := bcell b4; (try simp only [dr_size, dr_cell] at hc4); (try simp only [dr_size, dr_frozen] at hf4); have hz4 := below_size b4; (try simp at hz4); have zz4_0 : w.heap.size < w4.heap.size := (by omega); have zz4_1 : w.heap.size + 1 < w4.heap.size := (by omega); have zz4_2 : w.heap.size + 1 + 1 < w4.heap.size := (by omega); have zz4_3 : w1.heap.size < w4.heap.size := (by omega); have zz4_4 : w2.heap.size < w4.heap.size := (by omega)) | (go_at_call 64; (with_reducible refine (HDV.out _ _ _ (Kd.C_below HC0.out bel) (Kd.C_below HC4.out.1 bel) HC4.out.2).mono ?_); rintro e w5 ⟨v5, u5, rfl, hv5, hu5, b5⟩; obtain ⟨A5, c5, rfl⟩ := Kd.R_slice hv5; obtain ⟨B5, d5, rfl⟩ := Kd.R_slice hu5; have HC5 := Lib.hid (R_C hv5); have HD5 := Lib.hid (R_C hu5); clear hv5 hu5; obtain ⟨hc5, hf5⟩ := bcell b5; (try simp only [dr_size, dr_cell] at hc5); (try simp only [dr_size, dr_frozen] at hf5); have hz5 := below_size b5; (try simp at hz5); have zz5_0 : w.heap.size < w5.heap.size := (by omega); have zz5_1 : w.heap.size + 1 < w5.heap.size := (by omega); have zz5_2 : w.heap.size + 1 + 1 < w5.heap.size := (by omega); have zz5_3 : w1.heap.size < w5.heap.size := (by omega); have zz5_4 : w2.heap.size < w5.heap.size := (by omega)))
    all_goals
      go_wp2_with (first | fail | (go_at_call 65; (with_reducible refine (HTU.out _ _ _ (Kd.C_below HC5.out.1 bel) HC5.out.2).mono ?_); rintro e w9 ⟨rfl, rfl⟩) | (go_at_call 66; (with_reducible refine (HFN.out _ (Kd.C_below HC0.out bel)).mono ?_); rintro e w6 ⟨v6, rfl, hv6, b6⟩; obtain ⟨A6, c6, rfl⟩ := Kd.R_slice hv6; have HV6 := Lib.hid hv6; clear hv6; obtain ⟨hc6, hf6⟩ := bcell b6; have hz6 := below_size b6; (try simp at hz6); have zz6_0 : w.heap.size < w6.heap.size := (by omega); have zz6_1 : w.heap.size + 1 < w6.heap.size := (by omega); have zz6_2 : w.heap.size + 1 + 1 < w6.heap.size := (by omega); have zz6_3 : w1.heap.size < w6.heap.size := (by omega); have zz6_4 : w2.heap.size < w6.heap.size := (by omega)))
      (refine leaves_cons (f := 39) (args := #[.pointer (some ⟨w.heap.size + 1 + 1, 0, none⟩)]) (by simp) (by simp [go_sem]) ?_; refine (bcaught_idle _ _).mono ?_; rintro e u' w'' ⟨rfl, rfl, rfl⟩)
      exact ⟨.tuple #[.agg #[.int .i64 f, .int .i64 1, .bool false, .slice A6 l.length c6, .int .i64 L], .int .i64 0], rresults (rs := [.cell 4 25, .cell 5 28]) rfl (by simp) (.cell (w.heap.size + 1) rfl (load_agg (t := 25) blk0 Tryz.underlying25 rfl (by kernel_rfl)) (.cell (w.heap.size + 1 + 1) rfl (load_one (t := 28) blk0 (by kernel_rfl)) .nil)), _, rfl, Kd.R_lower (R_chg (S := fun k => k = w.heap.size + 1 ∨ k = w.heap.size + 1 + 1) HV6.out chg2 (by intro k hk; (try simp at hk ⊢); omega)) (by first | omega | (simp; omega)), bel⟩
  · have dn : decide ((n : Int) > 0) = true := decide_eq_true (by have := hn rfl; omega)
    have dn2 : decide (0 < n) = true := decide_eq_true (hn rfl)
    have dn3 : decide (0 < (n : Int)) = true := decide_eq_true (by have := hn rfl; omega)
    clear hn
    go_enter_defers Tryz.func23, Tryz.ntmps23
    go_wp2_with (first | fail | (go_at_call 41; (with_reducible refine (HK.out _).mono ?_); rintro e w1 ⟨rfl, b1⟩; obtain ⟨hc1, hf1⟩ := bcell b1; have hz1 := below_size b1; (try simp at hz1); have zz1_0 : w.heap.size < w1.heap.size := (by omega); have zz1_1 : w.heap.size + 1 < w1.heap.size := (by omega); have zz1_2 : w.heap.size + 1 + 1 < w1.heap.size := (by omega)) | (go_at_call 62; (with_reducible refine (HV.out _ bel).mono ?_); rintro e w9 ⟨rfl, rfl⟩) | (go_at_call 40; (with_reducible refine (bneed_true _ _).mono ?_); rintro e w9 ⟨rfl, rfl⟩) | (go_at_call 22; (with_reducible refine (HI.out _).mono ?_); rintro e w2 ⟨v2, rfl, hv2, b2⟩; obtain ⟨A2, c2, rfl⟩ := Kd.R_slice hv2; have HC2 := Lib.hid (R_C hv2); clear hv2; obtain ⟨hc2, hf2⟩ := bcell b2; have hz2 := below_size b2; (try simp at hz2); have zz2_0 : w.heap.size < w2.heap.size := (by omega); have zz2_1 : w.heap.size + 1 < w2.heap.size := (by omega); have zz2_2 : w.heap.size + 1 + 1 < w2.heap.size := (by omega); have zz2_3 : w1.heap.size < w2.heap.size := (by omega)) | (go_at_call 63; (with_reducible refine (HCM.out _ _ _ (Kd.C_below HC0.out bel) (Kd.C_below HC2.out.1 bel) HC2.out.2).mono ?_); rintro e w3 ⟨rfl, b3⟩; obtain ⟨hc3, hf3⟩ := bcell b3; have hz3 := below_size b3; (try simp at hz3); have zz3_0 : w.heap.size < w3.heap.size := (by omega); have zz3_1 : w.heap.size + 1 < w3.heap.size := (by omega); have zz3_2 : w.heap.size + 1 + 1 < w3.heap.size := (by omega); have zz3_3 : w1.heap.size < w3.heap.size := (by omega); have zz3_4 : w2.heap.size < w3.heap.size := (by omega)))
    go_region_held3 (fun w' => Below (w3).heap.size (w3) w' ∧ ∀ b o, b < (w3).heap.size → w'.cell? ⟨b, o, none⟩ = (w3).cell? ⟨b, o, none⟩) (first | ((try go_split_ands); refine below_S ?_; ((repeat (first | with_reducible assumption | with_reducible exact Below.refl _ _ | with_reducible refine below_alloc ?_ _ | with_reducible refine pw_below_drewN ?_ _ | with_reducible refine below_drew1 ?_ | ((with_reducible refine below_set ?_ ?hle); (case hle => first | (simp; done) | omega | (simp; omega))) | with_reducible refine below_step ?_ (by with_reducible assumption))); done))) (first | (go_at_call 50; (with_reducible refine (HPW.out _).mono ?_); rintro e w4 ⟨v4, rfl, hv4, b4⟩; obtain ⟨A4, c4, rfl⟩ := Kd.R_slice hv4; have HC4 := Lib.hid (R_C hv4); clear hv4; obtain ⟨hc4, hf4⟩ := bcell b4; (try simp only [dr_size, dr_cell] at hc4); (try simp only [dr_size, dr_frozen] at hf4); have hz4 := below_size b4; (try simp at hz4); have zz4_0 : w.heap.size < w4.heap.size := (by omega); have zz4_1 : w.heap.size + 1 < w4.heap.size := (by omega); have zz4_2 : w.heap.size + 1 + 1 < w4.heap.size := (by omega); have zz4_3 : w1.heap.size < w4.heap.size := (by omega); have zz4_4 : w2.heap.size < w4.heap.size := (by omega)) | (go_at_call 64; (with_reducible refine (HDV.out _ _ _ (Kd.C_below HC0.out bel) (Kd.C_below HC4.out.1 bel) HC4.out.2).mono ?_); rintro e w5 ⟨v5, u5, rfl, hv5, hu5, b5⟩; obtain ⟨A5, c5, rfl⟩ := Kd.R_slice hv5; obtain ⟨B5, d5, rfl⟩ := Kd.R_slice hu5; have HC5 := Lib.hid (R_C hv5); have HD5 := Lib.hid (R_C hu5); clear hv5 hu5; obtain ⟨hc5, hf5⟩ := bcell b5; (try simp only [dr_size, dr_cell] at hc5); (try simp only [dr_size, dr_frozen] at hf5); have hz5 := below_size b5; (try simp at hz5); have zz5_0 : w.heap.size < w5.heap.size := (by omega); have zz5_1 : w.heap.size + 1 < w5.heap.size := (by omega); have zz5_2 : w.heap.size + 1 + 1 < w5.heap.size := (by omega); have zz5_3 : w1.heap.size < w5.heap.size := (by omega); have zz5_4 : w2.heap.size < w5.heap.size := (by omega)))
    all_goals
      go_wp2_with (first | fail | (go_at_call 65; (with_reducible refine (HTU.out _ _ _ (Kd.C_below HC5.out.1 bel) HC5.out.2).mono ?_); rintro e w9 ⟨rfl, rfl⟩) | (go_at_call 66; (with_reducible refine (HFN.out _ (Kd.C_below HC0.out bel)).mono ?_); rintro e w6 ⟨v6, rfl, hv6, b6⟩; obtain ⟨A6, c6, rfl⟩ := Kd.R_slice hv6; have HV6 := Lib.hid hv6; clear hv6; obtain ⟨hc6, hf6⟩ := bcell b6; have hz6 := below_size b6; (try simp at hz6); have zz6_0 : w.heap.size < w6.heap.size := (by omega); have zz6_1 : w.heap.size + 1 < w6.heap.size := (by omega); have zz6_2 : w.heap.size + 1 + 1 < w6.heap.size := (by omega); have zz6_3 : w1.heap.size < w6.heap.size := (by omega); have zz6_4 : w2.heap.size < w6.heap.size := (by omega)))
      (refine leaves_cons (f := 39) (args := #[.pointer (some ⟨w.heap.size + 1 + 1, 0, none⟩)]) (by simp) (by simp [go_sem]) ?_; refine (bcaught_idle _ _).mono ?_; rintro e u' w'' ⟨rfl, rfl, rfl⟩)
      exact ⟨.tuple #[.agg #[.int .i64 f, .int .i64 1, .bool true, .slice A6 l.length c6, .int .i64 L], .int .i64 0], rresults (rs := [.cell 4 25, .cell 5 28]) rfl (by simp) (.cell (w.heap.size + 1) rfl (load_agg (t := 25) blk0 Tryz.underlying25 rfl (by kernel_rfl)) (.cell (w.heap.size + 1 + 1) rfl (load_one (t := 28) blk0 (by kernel_rfl)) .nil)), _, rfl, Kd.R_lower (R_chg (S := fun k => k = w.heap.size + 1 ∨ k = w.heap.size + 1 + 1) HV6.out chg2 (by intro k hk; (try simp at hk ⊢); omega)) (by first | omega | (simp; omega)), bel⟩
set_option maxHeartbeats 8000000 in
theorem at_nrm {f D E L H W D1 q X : Int} {ng : Bool} {A : Option Addr} {n c : Nat} {l : List Int} {es : List Int} {ps : List Int} {qs : List Int} {rs : List Int} {xs : List Int} (w : World)
    (HK : Hid (∀ w', Calls Tryz.prog 41 #[.int .i64 f] w' fun e w'' => e = .returned (.agg #[.int .i64 D, .int .i64 E, .int .i64 L, .int .i64 H, .int .i64 W, .int .i64 f]) ∧ Below w'.heap.size w' w''))
    (HV : Hid (∀ w', Below w.heap.size w w' → Calls Tryz.prog 62 #[.slice A n c] w' fun e w'' => e = .returned (.bool true) ∧ w' = w''))
    (hA : Kd.C (Kd.int .u32) w A n l) (hn : ng = true → 0 < n)
    (HI : Hid (∀ w', Calls Tryz.prog 22 #[.agg #[.int .i64 f, .int .i64 2, .bool false, .slice none 0 0, .int .i64 0]] w' (IntE false es 0 w')))
    (HCM : Hid (∀ A2 c2 w', Kd.C (Kd.int .u32) w' A n l → Kd.C (Kd.int .u32) w' A2 es.length es → es.length ≤ c2 → Calls Tryz.prog 63 #[.slice A n c, .slice A2 es.length c2] w' fun e w'' => e = .returned (.tuple #[.int .i64 (-1), .int .i64 0]) ∧ Below w'.heap.size w' w''))
    (hD1 : IntKind.i64.wrap (D - 1) = D1)
    (HPW : Hid (∀ w', Calls Tryz.prog 50 #[.int .i64 D1] w' (NewRow w' ps)))
    (HDV : Hid (∀ A2 c2 w', Kd.C (Kd.int .u32) w' A n l → Kd.C (Kd.int .u32) w' A2 ps.length ps → ps.length ≤ c2 → Calls Tryz.prog 64 #[.slice A n c, .slice A2 ps.length c2] w' (NumErr2 qs rs 0 w')))
    (HTU : Hid (∀ A2 c2 w', Kd.C (Kd.int .u32) w' A2 qs.length qs → qs.length ≤ c2 → Calls Tryz.prog 65 #[.slice A2 qs.length c2] w' fun e w'' => e = .returned (.tuple #[.int .u64 q, .int .i64 0]) ∧ w' = w''))
    (tq : (q == 0) = false) (hx1 : IntKind.i64.wrap q = q) (hx2 : wrap64 (wrap64 (L + q) - 1) = X)
    (HAD : Hid (∀ A2 c2 A3 c3 w', Kd.C (Kd.int .u32) w' A2 ps.length ps → ps.length ≤ c2 → Kd.C (Kd.int .u32) w' A3 rs.length rs → rs.length ≤ c3 → Calls Tryz.prog 61 #[.slice A2 ps.length c2, .slice A3 rs.length c3] w' (NumErr xs 0 w')))
    (HFN : Hid (∀ A2 c2 w', Kd.C (Kd.int .u32) w' A2 xs.length xs → Calls Tryz.prog 66 #[.agg #[.int .i64 D, .int .i64 E, .int .i64 L, .int .i64 H, .int .i64 W, .int .i64 f], .bool ng, .slice A2 xs.length c2, .int .i64 X] w' (DatumP f 1 ng xs X w'))) :
    Calls Tryz.prog 23 #[.int .i64 f, .agg #[.bool ng, .slice A n c]] w (DatumE f 1 ng xs X 0 w) := by
  have HC0 := Lib.hid hA
  clear hA
  cases ng
  · clear hn
    go_enter_defers Tryz.func23, Tryz.ntmps23
    go_wp2_with (first | fail | (go_at_call 41; (with_reducible refine (HK.out _).mono ?_); rintro e w1 ⟨rfl, b1⟩; obtain ⟨hc1, hf1⟩ := bcell b1; have hz1 := below_size b1; (try simp at hz1); have zz1_0 : w.heap.size < w1.heap.size := (by omega); have zz1_1 : w.heap.size + 1 < w1.heap.size := (by omega); have zz1_2 : w.heap.size + 1 + 1 < w1.heap.size := (by omega)) | (go_at_call 62; (with_reducible refine (HV.out _ bel).mono ?_); rintro e w9 ⟨rfl, rfl⟩) | (go_at_call 40; (with_reducible refine (bneed_true _ _).mono ?_); rintro e w9 ⟨rfl, rfl⟩) | (go_at_call 22; (with_reducible refine (HI.out _).mono ?_); rintro e w2 ⟨v2, rfl, hv2, b2⟩; obtain ⟨A2, c2, rfl⟩ := Kd.R_slice hv2; have HC2 := Lib.hid (R_C hv2); clear hv2; obtain ⟨hc2, hf2⟩ := bcell b2; have hz2 := below_size b2; (try simp at hz2); have zz2_0 : w.heap.size < w2.heap.size := (by omega); have zz2_1 : w.heap.size + 1 < w2.heap.size := (by omega); have zz2_2 : w.heap.size + 1 + 1 < w2.heap.size := (by omega); have zz2_3 : w1.heap.size < w2.heap.size := (by omega)) | (go_at_call 63; (with_reducible refine (HCM.out _ _ _ (Kd.C_below HC0.out bel) (Kd.C_below HC2.out.1 bel) HC2.out.2).mono ?_); rintro e w3 ⟨rfl, b3⟩; obtain ⟨hc3, hf3⟩ := bcell b3; have hz3 := below_size b3; (try simp at hz3); have zz3_0 : w.heap.size < w3.heap.size := (by omega); have zz3_1 : w.heap.size + 1 < w3.heap.size := (by omega); have zz3_2 : w.heap.size + 1 + 1 < w3.heap.size := (by omega); have zz3_3 : w1.heap.size < w3.heap.size := (by omega); have zz3_4 : w2.heap.size < w3.heap.size := (by omega)))
    go_region_held3 (fun w' => Below (w3).heap.size (w3) w' ∧ ∀ b o, b < (w3).heap.size → w'.cell? ⟨b, o, none⟩ = (w3).cell? ⟨b, o, none⟩) (first | ((try go_split_ands); refine below_S ?_; ((repeat (first | with_reducible assumption | with_reducible exact Below.refl _ _ | with_reducible refine below_alloc ?_ _ | with_reducible refine pw_below_drewN ?_ _ | with_reducible refine below_drew1 ?_ | ((with_reducible refine below_set ?_ ?hle); (case hle => first | (simp; done) | omega | (simp; omega))) | with_reducible refine below_step ?_ (by with_reducible assumption))); done))) (first | (go_at_call 50; (with_reducible refine (HPW.out _).mono ?_); rintro e w4 ⟨v4, rfl, hv4, b4⟩; obtain ⟨A4, c4, rfl⟩ := Kd.R_slice hv4; have HC4 := Lib.hid (R_C hv4); clear hv4; obtain ⟨hc4, hf4⟩ := bcell b4; (try simp only [dr_size, dr_cell] at hc4); (try simp only [dr_size, dr_frozen] at hf4); have hz4 := below_size b4; (try simp at hz4); have zz4_0 : w.heap.size < w4.heap.size := (by omega); have zz4_1 : w.heap.size + 1 < w4.heap.size := (by omega); have zz4_2 : w.heap.size + 1 + 1 < w4.heap.size := (by omega); have zz4_3 : w1.heap.size < w4.heap.size := (by omega); have zz4_4 : w2.heap.size < w4.heap.size := (by omega)) | (go_at_call 64; (with_reducible refine (HDV.out _ _ _ (Kd.C_below HC0.out bel) (Kd.C_below HC4.out.1 bel) HC4.out.2).mono ?_); rintro e w5 ⟨v5, u5, rfl, hv5, hu5, b5⟩; obtain ⟨A5, c5, rfl⟩ := Kd.R_slice hv5; obtain ⟨B5, d5, rfl⟩ := Kd.R_slice hu5; have HC5 := Lib.hid (R_C hv5); have HD5 := Lib.hid (R_C hu5); clear hv5 hu5; obtain ⟨hc5, hf5⟩ := bcell b5; (try simp only [dr_size, dr_cell] at hc5); (try simp only [dr_size, dr_frozen] at hf5); have hz5 := below_size b5; (try simp at hz5); have zz5_0 : w.heap.size < w5.heap.size := (by omega); have zz5_1 : w.heap.size + 1 < w5.heap.size := (by omega); have zz5_2 : w.heap.size + 1 + 1 < w5.heap.size := (by omega); have zz5_3 : w1.heap.size < w5.heap.size := (by omega); have zz5_4 : w2.heap.size < w5.heap.size := (by omega)))
    all_goals
      go_wp2_with (first | fail | (go_at_call 65; (with_reducible refine (HTU.out _ _ _ (Kd.C_below HC5.out.1 bel) HC5.out.2).mono ?_); rintro e w9 ⟨rfl, rfl⟩) | (go_at_call 50; (with_reducible refine (HPW.out _).mono ?_); rintro e w7 ⟨v7, rfl, hv7, b7⟩; obtain ⟨A7, c7, rfl⟩ := Kd.R_slice hv7; have HC7 := Lib.hid (R_C hv7); clear hv7; obtain ⟨hc7, hf7⟩ := bcell b7; have hz7 := below_size b7; (try simp at hz7); have zz7_0 : w.heap.size < w7.heap.size := (by omega); have zz7_1 : w.heap.size + 1 < w7.heap.size := (by omega); have zz7_2 : w.heap.size + 1 + 1 < w7.heap.size := (by omega); have zz7_3 : w1.heap.size < w7.heap.size := (by omega); have zz7_4 : w2.heap.size < w7.heap.size := (by omega)) | (go_at_call 61; (with_reducible refine (HAD.out _ _ _ _ _ (Kd.C_below HC7.out.1 bel) HC7.out.2 (Kd.C_below HD5.out.1 bel) HD5.out.2).mono ?_); rintro e w8 ⟨v8, rfl, hv8, b8⟩; obtain ⟨A8, c8, rfl⟩ := Kd.R_slice hv8; have HC8 := Lib.hid (R_C hv8); clear hv8; obtain ⟨hc8, hf8⟩ := bcell b8; have hz8 := below_size b8; (try simp at hz8); have zz8_0 : w.heap.size < w8.heap.size := (by omega); have zz8_1 : w.heap.size + 1 < w8.heap.size := (by omega); have zz8_2 : w.heap.size + 1 + 1 < w8.heap.size := (by omega); have zz8_3 : w1.heap.size < w8.heap.size := (by omega); have zz8_4 : w2.heap.size < w8.heap.size := (by omega)) | (go_at_call 66; (with_reducible refine (HFN.out _ _ _ (Kd.C_below HC8.out.1 bel)).mono ?_); rintro e w6 ⟨v6, rfl, hv6, b6⟩; obtain ⟨A6, c6, rfl⟩ := Kd.R_slice hv6; have HV6 := Lib.hid hv6; clear hv6; obtain ⟨hc6, hf6⟩ := bcell b6; have hz6 := below_size b6; (try simp at hz6); have zz6_0 : w.heap.size < w6.heap.size := (by omega); have zz6_1 : w.heap.size + 1 < w6.heap.size := (by omega); have zz6_2 : w.heap.size + 1 + 1 < w6.heap.size := (by omega); have zz6_3 : w1.heap.size < w6.heap.size := (by omega); have zz6_4 : w2.heap.size < w6.heap.size := (by omega)))
      (refine leaves_cons (f := 39) (args := #[.pointer (some ⟨w.heap.size + 1 + 1, 0, none⟩)]) (by simp) (by simp [go_sem]) ?_; refine (bcaught_idle _ _).mono ?_; rintro e u' w'' ⟨rfl, rfl, rfl⟩)
      exact ⟨.tuple #[.agg #[.int .i64 f, .int .i64 1, .bool false, .slice A6 xs.length c6, .int .i64 X], .int .i64 0], rresults (rs := [.cell 4 25, .cell 5 28]) rfl (by simp) (.cell (w.heap.size + 1) rfl (load_agg (t := 25) blk0 Tryz.underlying25 rfl (by kernel_rfl)) (.cell (w.heap.size + 1 + 1) rfl (load_one (t := 28) blk0 (by kernel_rfl)) .nil)), _, rfl, Kd.R_lower (R_chg (S := fun k => k = w.heap.size + 1 ∨ k = w.heap.size + 1 + 1) HV6.out chg2 (by intro k hk; (try simp at hk ⊢); omega)) (by first | omega | (simp; omega)), bel⟩
  · have dn : decide ((n : Int) > 0) = true := decide_eq_true (by have := hn rfl; omega)
    have dn2 : decide (0 < n) = true := decide_eq_true (hn rfl)
    have dn3 : decide (0 < (n : Int)) = true := decide_eq_true (by have := hn rfl; omega)
    clear hn
    go_enter_defers Tryz.func23, Tryz.ntmps23
    go_wp2_with (first | fail | (go_at_call 41; (with_reducible refine (HK.out _).mono ?_); rintro e w1 ⟨rfl, b1⟩; obtain ⟨hc1, hf1⟩ := bcell b1; have hz1 := below_size b1; (try simp at hz1); have zz1_0 : w.heap.size < w1.heap.size := (by omega); have zz1_1 : w.heap.size + 1 < w1.heap.size := (by omega); have zz1_2 : w.heap.size + 1 + 1 < w1.heap.size := (by omega)) | (go_at_call 62; (with_reducible refine (HV.out _ bel).mono ?_); rintro e w9 ⟨rfl, rfl⟩) | (go_at_call 40; (with_reducible refine (bneed_true _ _).mono ?_); rintro e w9 ⟨rfl, rfl⟩) | (go_at_call 22; (with_reducible refine (HI.out _).mono ?_); rintro e w2 ⟨v2, rfl, hv2, b2⟩; obtain ⟨A2, c2, rfl⟩ := Kd.R_slice hv2; have HC2 := Lib.hid (R_C hv2); clear hv2; obtain ⟨hc2, hf2⟩ := bcell b2; have hz2 := below_size b2; (try simp at hz2); have zz2_0 : w.heap.size < w2.heap.size := (by omega); have zz2_1 : w.heap.size + 1 < w2.heap.size := (by omega); have zz2_2 : w.heap.size + 1 + 1 < w2.heap.size := (by omega); have zz2_3 : w1.heap.size < w2.heap.size := (by omega)) | (go_at_call 63; (with_reducible refine (HCM.out _ _ _ (Kd.C_below HC0.out bel) (Kd.C_below HC2.out.1 bel) HC2.out.2).mono ?_); rintro e w3 ⟨rfl, b3⟩; obtain ⟨hc3, hf3⟩ := bcell b3; have hz3 := below_size b3; (try simp at hz3); have zz3_0 : w.heap.size < w3.heap.size := (by omega); have zz3_1 : w.heap.size + 1 < w3.heap.size := (by omega); have zz3_2 : w.heap.size + 1 + 1 < w3.heap.size := (by omega); have zz3_3 : w1.heap.size < w3.heap.size := (by omega); have zz3_4 : w2.heap.size < w3.heap.size := (by omega)))
    go_region_held3 (fun w' => Below (w3).heap.size (w3) w' ∧ ∀ b o, b < (w3).heap.size → w'.cell? ⟨b, o, none⟩ = (w3).cell? ⟨b, o, none⟩) (first | ((try go_split_ands); refine below_S ?_; ((repeat (first | with_reducible assumption | with_reducible exact Below.refl _ _ | with_reducible refine below_alloc ?_ _ | with_reducible refine pw_below_drewN ?_ _ | with_reducible refine below_drew1 ?_ | ((with_reducible refine below_set ?_ ?hle); (case hle => first | (simp; done) | omega | (simp; omega))) | with_reducible refine below_step ?_ (by with_reducible assumption))); done))) (first | (go_at_call 50; (with_reducible refine (HPW.out _).mono ?_); rintro e w4 ⟨v4, rfl, hv4, b4⟩; obtain ⟨A4, c4, rfl⟩ := Kd.R_slice hv4; have HC4 := Lib.hid (R_C hv4); clear hv4; obtain ⟨hc4, hf4⟩ := bcell b4; (try simp only [dr_size, dr_cell] at hc4); (try simp only [dr_size, dr_frozen] at hf4); have hz4 := below_size b4; (try simp at hz4); have zz4_0 : w.heap.size < w4.heap.size := (by omega); have zz4_1 : w.heap.size + 1 < w4.heap.size := (by omega); have zz4_2 : w.heap.size + 1 + 1 < w4.heap.size := (by omega); have zz4_3 : w1.heap.size < w4.heap.size := (by omega); have zz4_4 : w2.heap.size < w4.heap.size := (by omega)) | (go_at_call 64; (with_reducible refine (HDV.out _ _ _ (Kd.C_below HC0.out bel) (Kd.C_below HC4.out.1 bel) HC4.out.2).mono ?_); rintro e w5 ⟨v5, u5, rfl, hv5, hu5, b5⟩; obtain ⟨A5, c5, rfl⟩ := Kd.R_slice hv5; obtain ⟨B5, d5, rfl⟩ := Kd.R_slice hu5; have HC5 := Lib.hid (R_C hv5); have HD5 := Lib.hid (R_C hu5); clear hv5 hu5; obtain ⟨hc5, hf5⟩ := bcell b5; (try simp only [dr_size, dr_cell] at hc5); (try simp only [dr_size, dr_frozen] at hf5); have hz5 := below_size b5; (try simp at hz5); have zz5_0 : w.heap.size < w5.heap.size := (by omega); have zz5_1 : w.heap.size + 1 < w5.heap.size := (by omega); have zz5_2 : w.heap.size + 1 + 1 < w5.heap.size := (by omega); have zz5_3 : w1.heap.size < w5.heap.size := (by omega); have zz5_4 : w2.heap.size < w5.heap.size := (by omega)))
    all_goals
      go_wp2_with (first | fail | (go_at_call 65; (with_reducible refine (HTU.out _ _ _ (Kd.C_below HC5.out.1 bel) HC5.out.2).mono ?_); rintro e w9 ⟨rfl, rfl⟩) | (go_at_call 50; (with_reducible refine (HPW.out _).mono ?_); rintro e w7 ⟨v7, rfl, hv7, b7⟩; obtain ⟨A7, c7, rfl⟩ := Kd.R_slice hv7; have HC7 := Lib.hid (R_C hv7); clear hv7; obtain ⟨hc7, hf7⟩ := bcell b7; have hz7 := below_size b7; (try simp at hz7); have zz7_0 : w.heap.size < w7.heap.size := (by omega); have zz7_1 : w.heap.size + 1 < w7.heap.size := (by omega); have zz7_2 : w.heap.size + 1 + 1 < w7.heap.size := (by omega); have zz7_3 : w1.heap.size < w7.heap.size := (by omega); have zz7_4 : w2.heap.size < w7.heap.size := (by omega)) | (go_at_call 61; (with_reducible refine (HAD.out _ _ _ _ _ (Kd.C_below HC7.out.1 bel) HC7.out.2 (Kd.C_below HD5.out.1 bel) HD5.out.2).mono ?_); rintro e w8 ⟨v8, rfl, hv8, b8⟩; obtain ⟨A8, c8, rfl⟩ := Kd.R_slice hv8; have HC8 := Lib.hid (R_C hv8); clear hv8; obtain ⟨hc8, hf8⟩ := bcell b8; have hz8 := below_size b8; (try simp at hz8); have zz8_0 : w.heap.size < w8.heap.size := (by omega); have zz8_1 : w.heap.size + 1 < w8.heap.size := (by omega); have zz8_2 : w.heap.size + 1 + 1 < w8.heap.size := (by omega); have zz8_3 : w1.heap.size < w8.heap.size := (by omega); have zz8_4 : w2.heap.size < w8.heap.size := (by omega)) | (go_at_call 66; (with_reducible refine (HFN.out _ _ _ (Kd.C_below HC8.out.1 bel)).mono ?_); rintro e w6 ⟨v6, rfl, hv6, b6⟩; obtain ⟨A6, c6, rfl⟩ := Kd.R_slice hv6; have HV6 := Lib.hid hv6; clear hv6; obtain ⟨hc6, hf6⟩ := bcell b6; have hz6 := below_size b6; (try simp at hz6); have zz6_0 : w.heap.size < w6.heap.size := (by omega); have zz6_1 : w.heap.size + 1 < w6.heap.size := (by omega); have zz6_2 : w.heap.size + 1 + 1 < w6.heap.size := (by omega); have zz6_3 : w1.heap.size < w6.heap.size := (by omega); have zz6_4 : w2.heap.size < w6.heap.size := (by omega)))
      (refine leaves_cons (f := 39) (args := #[.pointer (some ⟨w.heap.size + 1 + 1, 0, none⟩)]) (by simp) (by simp [go_sem]) ?_; refine (bcaught_idle _ _).mono ?_; rintro e u' w'' ⟨rfl, rfl, rfl⟩)
      exact ⟨.tuple #[.agg #[.int .i64 f, .int .i64 1, .bool true, .slice A6 xs.length c6, .int .i64 X], .int .i64 0], rresults (rs := [.cell 4 25, .cell 5 28]) rfl (by simp) (.cell (w.heap.size + 1) rfl (load_agg (t := 25) blk0 Tryz.underlying25 rfl (by kernel_rfl)) (.cell (w.heap.size + 1 + 1) rfl (load_one (t := 28) blk0 (by kernel_rfl)) .nil)), _, rfl, Kd.R_lower (R_chg (S := fun k => k = w.heap.size + 1 ∨ k = w.heap.size + 1 + 1) HV6.out chg2 (by intro k hk; (try simp at hk ⊢); omega)) (by first | omega | (simp; omega)), bel⟩
end Go.Proofs.YtacnkcojhlbkoaaGreatDoor

set_option linter.unusedSimpArgs false
set_option linter.unusedVariables false
set_option linter.unnecessarySimpa false
namespace Go.Proofs.YtacnkcojhlbkoaaGreatDoor
open Go.RowKit Go.Proofs.YtacnkcojhlbkoaaGreatDoorW.PrintWords Go.Proofs.YtacnkcojhlbkoaaGreatDoorW.PrintLast Go.Proofs.YtacnkcojhlbkoaaGreatDoorW.PrintMore Go.Proofs.YtacnkcojhlbkoaaGreatDoor.NL
set_option maxRecDepth 100000
set_option exponentiation.threshold 130

/-- The place of infinity. -/
def endN (f : Int) : Nat := 2 ^ oneN f * (fmH f - fmL f).toNat + 2 ^ (oneN f + 1)
def atR (f : Int) (ng : Bool) (l : List Int) : Int × Int × Bool × List Int × Int × Int :=
  if isFm f = false ∨ okN l = false ∨ (ng = true ∧ l.length = 0) then (0, 0, false, [], 0, 1)
  else if endN f < val l then (0, 0, false, [], 0, 3)
  else if val l = endN f then (f, 2, ng, [], 0, 0)
  else if val l / 2 ^ oneN f = 0 then (f, 1, ng, l, fmL f, 0)
  else (f, 1, ng, ofN (2 ^ oneN f + val l % 2 ^ oneN f), fmL f + ((val l / 2 ^ oneN f : Nat) : Int) - 1, 0)
theorem at_nums {f : Int} (hf : isFm f = true) : IntKind.i64.wrap (fmD f - 1) = (oneN f : Nat) ∧ oneN f ≤ 112 ∧ (fmH f - fmL f).toNat ≤ 40000 ∧ -100000 ≤ fmL f ∧ fmL f ≤ 0 := by
  rcases fm_cases hf with rfl | rfl | rfl | rfl | rfl <;> decide
theorem end_lt {f : Int} (hf : isFm f = true) : endN f < 2 ^ 130 := by
  obtain ⟨-, h1, h2, -, -⟩ := at_nums hf
  unfold endN
  have e1 : 2 ^ oneN f * (fmH f - fmL f).toNat ≤ 2 ^ 112 * 40000 := Nat.mul_le_mul (pow_le3 h1) h2
  have e2 : 2 ^ (oneN f + 1) ≤ 2 ^ 113 := pow_le3 (by omega)
  have e3 : (2 : Nat) ^ 112 * 40000 + 2 ^ 113 < 2 ^ 130 := by decide +kernel
  omega
theorem end_div {f : Int} (hf : isFm f = true) : endN f / 2 ^ oneN f ≤ 40002 := by
  obtain ⟨-, h1, h2, -, -⟩ := at_nums hf
  unfold endN
  rw [Nat.pow_succ, ← Nat.mul_add, Nat.mul_div_cancel_left _ (Nat.two_pow_pos _)]
  omega
theorem at_x2 {L : Int} {q : Nat} (h1 : -100000 ≤ L) (h2 : L ≤ 0) (hq : q ≤ 40002) : IntKind.i64.wrap (q : Int) = (q : Int) ∧ wrap64 (wrap64 (L + (q : Int)) - 1) = L + (q : Int) - 1 := by
  constructor
  · rw [IntKind.wrap_i64]; omega
  · unfold wrap64; omega
set_option maxHeartbeats 4000000 in
theorem bat_any {f : Int} {ng : Bool} {A : Option Addr} {n c : Nat} {l : List Int} (w : World) (hA : Kd.C (Kd.int .u32) w A n l) (la : Lim l) (hc : n ≤ c) :
    Calls Tryz.prog 23 #[.int .i64 f, .agg #[.bool ng, .slice A n c]] w (DatumE (atR f ng l).1 (atR f ng l).2.1 (atR f ng l).2.2.1 (atR f ng l).2.2.2.1 (atR f ng l).2.2.2.2.1 (atR f ng l).2.2.2.2.2 w) := by
  have hal : l.length = n := hA.1
  have hm : ∀ v, atR f ng l = v → Calls Tryz.prog 23 #[.int .i64 f, .agg #[.bool ng, .slice A n c]] w (DatumE v.1 v.2.1 v.2.2.1 v.2.2.2.1 v.2.2.2.2.1 v.2.2.2.2.2 w) → Calls Tryz.prog 23 #[.int .i64 f, .agg #[.bool ng, .slice A n c]] w (DatumE (atR f ng l).1 (atR f ng l).2.1 (atR f ng l).2.2.1 (atR f ng l).2.2.2.1 (atR f ng l).2.2.2.2.1 (atR f ng l).2.2.2.2.2 w) := by
    intro v hv h; rw [hv]; exact h
  have e := atR.eq_1 f ng l
  cases hf : isFm f with
  | false =>
    rw [if_pos (.inl hf)] at e
    exact hm _ e (at_no w (Lib.hid fun w' => kindOf_no hf w'))
  | true =>
    have HK := Lib.hid fun w' => kindOf_ok hf w'
    unfold kV at HK
    have HV := Lib.hid fun w' (h : Below w.heap.size w w') => valid_any A n c l w' (Kd.C_below hA h) la
    cases hok : okN l with
    | false =>
      rw [if_pos (.inr (.inl hok))] at e
      rw [hok] at HV
      exact hm _ e (at_bad w HK HV)
    | true =>
      rw [hok] at HV
      by_cases h0 : ng = true ∧ l.length = 0
      · rw [if_pos (.inr (.inr h0))] at e
        obtain ⟨rfl, h1⟩ := h0
        obtain rfl : n = 0 := by omega
        exact hm _ e (at_neg w HK HV)
      · rw [if_neg (by rintro (h | h | h); · rw [hf] at h; cases h
                       · rw [hok] at h; cases h
                       · exact h0 h)] at e
        obtain ⟨hD1, o1, o2, o3, o4⟩ := at_nums hf
        have hel := end_lt hf
        have hed := end_div hf
        have hn : ng = true → 0 < n := fun h => by
          rcases Nat.eq_zero_or_pos n with h2 | h2
          · exact absurd ⟨h, by omega⟩ h0
          · exact h2
        have hI : Hid (∀ w', Calls Tryz.prog 22 #[.agg #[.int .i64 f, .int .i64 2, .bool false, .slice none 0 0, .int .i64 0]] w' (IntE false (ofN (endN f)) 0 w')) := Lib.hid fun w' => by
          have hh : hasB f 2 [] 0 = true := by
            unfold hasB fits; rfl
          have := index_inf (f := f) (ex := 0) (ng := false) w' hf (R_nilC w') (by intro x hx; simp at hx) (Nat.le_refl 0) hh
          rwa [Bool.false_and] at this
        have HCM : ∀ cv, cv = cmpN (val l) (endN f) → Hid (∀ A2 c2 w', Kd.C (Kd.int .u32) w' A n l → Kd.C (Kd.int .u32) w' A2 (ofN (endN f)).length (ofN (endN f)) → (ofN (endN f)).length ≤ c2 → Calls Tryz.prog 63 #[.slice A n c, .slice A2 (ofN (endN f)).length c2] w' fun e w'' => e = .returned (.tuple #[.int .i64 cv, .int .i64 0]) ∧ Below w'.heap.size w' w'') := fun cv hcv => Lib.hid fun A2 c2 w' h1 h2 h3 => by
          have := nCmp_any w' h1 h2 la (lim_ofN _) hc h3
          unfold natCmp at this
          rw [hok, okN_small hel (by omega), val_ofN, ← hcv] at this
          exact this
        by_cases h1 : endN f < val l
        · rw [if_pos h1] at e
          refine hm _ e (at_far w HK HV hA hn hI (HCM 1 (by unfold cmpN; rw [if_neg (by omega), if_pos h1])))
        · rw [if_neg h1] at e
          by_cases h2 : val l = endN f
          · rw [if_pos h2] at e
            refine hm _ e (at_inf w HK HV hA hn hI (HCM 0 (by unfold cmpN; rw [if_neg (by omega), if_neg (by omega)])))
          · rw [if_neg h2] at e
            have hlt : val l < endN f := by omega
            have HC1 := HCM (-1) (by unfold cmpN; rw [if_pos hlt])
            have hqd : val l / 2 ^ oneN f ≤ 40002 := Nat.le_trans (Nat.div_le_div_right (Nat.le_of_lt hlt)) hed
            have hps : okN (ofN (2 ^ oneN f)) = true := okN_small (k := 113) (pow_lt3 (by omega)) (by omega)
            have hpl : (ofN (2 ^ oneN f)).length < 32 := by
              have : (ofN (2 ^ oneN f)).length ≤ 4 := len_ofN_le (k := 4) (by
                have h3 : 2 ^ oneN f ≤ 2 ^ 112 := pow_le3 o1
                have h4 : (2 : Nat) ^ 112 < 4294967296 ^ 4 := by decide +kernel
                omega)
              omega
            have HPW := Lib.hid fun w' => power_any (oneN f) w' (by omega)
            have hpp : 2 ^ oneN f ≠ 0 := Nat.ne_of_gt (Nat.two_pow_pos _)
            have HDV : Hid (∀ A2 c2 w', Kd.C (Kd.int .u32) w' A n l → Kd.C (Kd.int .u32) w' A2 (ofN (2 ^ oneN f)).length (ofN (2 ^ oneN f)) → (ofN (2 ^ oneN f)).length ≤ c2 → Calls Tryz.prog 64 #[.slice A n c, .slice A2 (ofN (2 ^ oneN f)).length c2] w' (NumErr2 (ofN (val l / 2 ^ oneN f)) (ofN (val l % 2 ^ oneN f)) 0 w')) := Lib.hid fun A2 c2 w' h3 h4 h5 => by
              have := nDiv_any w' h3 h4 la (lim_ofN _) hc h5 hpl
              unfold natDiv at this
              rw [hok, hps, val_ofN, if_pos (by rfl), if_neg hpp] at this
              exact this
            have hql : (ofN (val l / 2 ^ oneN f)).length ≤ 2 := len_ofN_le (k := 2) (by omega)
            have HTU : ∀ z : Int, z = ((val l / 2 ^ oneN f : Nat) : Int) → Hid (∀ A2 c2 w', Kd.C (Kd.int .u32) w' A2 (ofN (val l / 2 ^ oneN f)).length (ofN (val l / 2 ^ oneN f)) → (ofN (val l / 2 ^ oneN f)).length ≤ c2 → Calls Tryz.prog 65 #[.slice A2 (ofN (val l / 2 ^ oneN f)).length c2] w' fun e w'' => e = .returned (.tuple #[.int .u64 z, .int .i64 0]) ∧ w' = w'') := fun z hz => Lib.hid fun A2 c2 w' h3 h4 => by
              have := nToUint_any w' h3 (lim_ofN _) h4
              unfold natToUint at this
              rw [if_pos (okN_iff.2 ⟨by omega, top_ofN _⟩), if_pos hql, val_ofN, ← hz] at this
              exact this
            by_cases hq : val l / 2 ^ oneN f = 0
            · rw [if_pos hq] at e
              have HFN := Lib.hid fun w' (h : Kd.C (Kd.int .u32) w' A n l) => finite_any (f := f) (ex := fmL f) (ng := ng) (c := c) w' h (by have := (okN_iff.1 hok).1; omega)
              unfold kV at HFN
              exact hm _ e (at_sub w HK HV hA hn hI HC1 hD1 HPW HDV (HTU 0 (by rw [hq]; rfl)) HFN)
            · rw [if_neg hq] at e
              obtain ⟨hx1, hx2⟩ := at_x2 o3 o4 hqd
              have hrl : val l % 2 ^ oneN f < 2 ^ oneN f := Nat.mod_lt _ (Nat.two_pow_pos _)
              have hrl2 : val l % 2 ^ oneN f < 2 ^ 113 := Nat.lt_of_lt_of_le hrl (pow_le3 (by omega))
              have hsl : 2 ^ oneN f + val l % 2 ^ oneN f < 2 ^ 114 := by
                have h3 : 2 ^ oneN f ≤ 2 ^ 112 := pow_le3 o1
                have h4 : (2 : Nat) ^ 112 + 2 ^ 113 < 2 ^ 114 := by decide +kernel
                omega
              have HAD : Hid (∀ A2 c2 A3 c3 w', Kd.C (Kd.int .u32) w' A2 (ofN (2 ^ oneN f)).length (ofN (2 ^ oneN f)) → (ofN (2 ^ oneN f)).length ≤ c2 → Kd.C (Kd.int .u32) w' A3 (ofN (val l % 2 ^ oneN f)).length (ofN (val l % 2 ^ oneN f)) → (ofN (val l % 2 ^ oneN f)).length ≤ c3 → Calls Tryz.prog 61 #[.slice A2 (ofN (2 ^ oneN f)).length c2, .slice A3 (ofN (val l % 2 ^ oneN f)).length c3] w' (NumErr (ofN (2 ^ oneN f + val l % 2 ^ oneN f)) 0 w')) := Lib.hid fun A2 c2 A3 c3 w' h3 h4 h5 h6 => by
                have := nAdd_any w' h3 h5 (lim_ofN _) (lim_ofN _) h4 h6
                unfold natAdd numRes numOut at this
                rw [hps, okN_small hrl2 (by omega)] at this
                simp only [Bool.and_self, if_true] at this
                rw [val_ofN, val_ofN, if_pos (small_len hsl (by omega))] at this
                exact this
              have HFN := Lib.hid fun A2 c2 w' (h : Kd.C (Kd.int .u32) w' A2 (ofN (2 ^ oneN f + val l % 2 ^ oneN f)).length (ofN (2 ^ oneN f + val l % 2 ^ oneN f))) => finite_any (f := f) (ex := fmL f + ((val l / 2 ^ oneN f : Nat) : Int) - 1) (ng := ng) (c := c2) w' h (by have := small_len hsl (by omega); omega)
              unfold kV at HFN
              exact hm _ e (at_nrm w HK HV hA hn hI HC1 hD1 HPW HDV (HTU _ rfl) (beq_eq_false_iff_ne.2 (fun h => hq (by omega))) hx1 hx2 HAD HFN)
end Go.Proofs.YtacnkcojhlbkoaaGreatDoor
