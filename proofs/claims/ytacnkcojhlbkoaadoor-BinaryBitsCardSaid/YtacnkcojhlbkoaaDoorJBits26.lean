/- The law BinaryBits: its walk: what its calls return makes it answer true. The specification's Decode: what it returns, of numbers. Written by this session's own program (wip/tools/xprint.sh) for the law Half: what the law's functions compute, and that the machine does so, given the contracts of the program's functions. -/
import Derived.Test.YtacnkcojhlbkoaaDoorJBits24
import Derived.Test.YtacnkcojhlbkoaaDoorJBits25
import Derived.Test.YtacnkcojhlbkoaaDoorProg
import Derived.Below
import Derived.Deep.Draws
import Derived.Deep.AppendLies
import Derived.Maps.AppendAt
import Derived.OwnWalk
import Derived.Laws.BytesArg
import Derived.Laws.MakeOwn
import Derived.Laws.OwnMore
import Derived.Deep.OwnRows
import Derived.Tactics
import Derived.Lib.ConvBytes
import Derived.Laws.Slices
import Derived.WalkKit
import Derived.KernelRfl
import Derived.RowKit3
import Derived.Deep.LoopGhost
import Derived.Deep.QuietTactic
import Derived.BigQuiet
import Derived.WideLaws
import Derived.Deep.DeepCutAuto
import Derived.Deep.CutBlock
import Derived.Deep.RegionHeld3
import Derived.Laws.Rows
import Derived.Lib.AppendStr
import Derived.ArgAppend
import Derived.Laws.IdiomCopy
import Derived.OrdersHeld
import Derived.Laws.BitsLemmas
import Derived.RowKit
import Derived.Test.YtacnkcojhlbkoaaDoorJBits14
import Derived.Test.YtacnkcojhlbkoaaDoorJBits0
import Derived.Test.YtacnkcojhlbkoaaDoorJBits1
import Derived.Test.YtacnkcojhlbkoaaDoorJBits15
set_option linter.unusedSimpArgs false
set_option linter.unusedVariables false
set_option linter.unnecessarySimpa false
namespace Go.Proofs.YtacnkcojhlbkoaaDoor
open Go.RowKit Go.Proofs.YtacnkcojhlbkoaaDoorW.PrintWords Go.Proofs.YtacnkcojhlbkoaaDoorW.PrintLast Go.Proofs.YtacnkcojhlbkoaaDoorW.PrintMore Go.Proofs.YtacnkcojhlbkoaaDoor.NL
set_option maxRecDepth 100000
set_option exponentiation.threshold 33000

set_option maxHeartbeats 4000000 in
theorem bits_long {f cl ex m hi lo : Int} {ng : Bool} {A : Option Addr} {c : Nat} {l : List Int} (w : World) (hli : light1 l = some false) (hT : Tab w)
    (HSa : Hid (∀ w', Tab w' → Calls Tryd.prog 11 #[] w' fun e w'' => e = .returned (.bool true) ∧ Below w'.heap.size w' w'')) :
    Calls Tryd.prog 3 #[dV f cl ng A l.length c ex, .int .i64 m, .agg #[.int .u64 hi, .int .u64 lo]] w fun e w' => e = .returned (.bool true) ∧ Below w.heap.size w w' := by
  have HLI := Lib.hid hli
  have HT := Lib.hid hT
  clear hli hT
  go_enter Tryd.func3, Tryd.ntmps3
  go_wp2_with (first | fail | (go_at_call 10; (with_reducible refine (light_at1 _ _ _ (by simp) HLI.out).mono ?_); rintro e w1 ⟨rfl, b1⟩; obtain ⟨hc1, hf1⟩ := bcell b1; have hz1 := below_size b1; (try simp at hz1)) | (go_at_call 11; (with_reducible refine (HSa.out _ (HT.out.below bel)).mono ?_); rintro e w2 ⟨rfl, b2⟩; obtain ⟨hc2, hf2⟩ := bcell b2; have hz2 := below_size b2; (try simp at hz2)))
  all_goals
    go_ret
    exact ⟨by simp, bel⟩
set_option maxHeartbeats 8000000 in
theorem bits_nofm {f cl ex m hi lo h l1 er : Int} {ng v : Bool} {A : Option Addr} {c : Nat} {l ys : List Int} (w : World)
    (hA : Kd.C (Kd.int .u32) w A l.length l) (hli : light1 l = some true) (hT : Tab w)
    (HEn : Hid (∀ w', Kd.C (Kd.int .u32) w' A l.length l → Calls Tryd.prog 12 #[dV f cl ng A l.length c ex] w' fun e w'' => e = .returned (.tuple #[.agg #[.int .u64 h, .int .u64 l1], .int .i64 er]) ∧ Below w'.heap.size w' w''))
    (HVa : Hid (∀ w', Kd.C (Kd.int .u32) w' A l.length l → Calls Tryd.prog 13 #[dV f cl ng A l.length c ex] w' fun e w'' => e = .returned (.bool v) ∧ Below w'.heap.size w' w''))
    (HRe : v = true → Hid (∀ w', Kd.C (Kd.int .u32) w' A l.length l → Calls Tryd.prog 14 #[dV f cl ng A l.length c ex] w' fun e w'' => e = .returned (.agg #[.int .u64 h, .int .u64 l1]) ∧ Below w'.heap.size w' w''))
    (hv : v = true ∧ er = 0 ∨ v = false ∧ er = 1 ∧ h = 0 ∧ l1 = 0)
    (HSa : Hid (∀ w', Tab w' → Calls Tryd.prog 11 #[] w' fun e w'' => e = .returned (.bool true) ∧ Below w'.heap.size w' w''))
    (HDe : Hid (∀ w', Calls Tryd.prog 15 #[.int .i64 m, .agg #[.int .u64 hi, .int .u64 lo]] w' fun e w'' => ∃ v3 : Value, e = .returned (.tuple #[.agg #[.int .i64 0, .int .i64 0, .bool false, v3, .int .i64 0], .int .i64 1]) ∧ Kd.R (Kd.int .u32) 77 w'' w'.heap.size (fun _ => True) v3 ys ∧ Below w'.heap.size w' w''))
    (HCa : Hid (∀ w', Calls Tryd.prog 16 #[.int .i64 m, .agg #[.int .u64 hi, .int .u64 lo]] w' fun e w'' => e = .returned (.tuple #[.bool false, .int .i64 1]) ∧ Below w'.heap.size w' w''))
    (HIF : Hid (∀ w', Calls Tryd.prog 17 #[.int .i64 m] w' fun e w'' => e = .returned (.bool false) ∧ Below w'.heap.size w' w''))
    (HSm : Hid (∀ A c w', Kd.C (Kd.int .u32) w' A ys.length ys → ys.length ≤ c → Calls Tryd.prog 19 #[.agg #[.int .i64 0, .int .i64 0, .bool false, .slice A ys.length c, .int .i64 0], .agg #[.int .i64 0, .int .i64 0, .bool false, .slice none 0 0, .int .i64 0]] w' fun e w'' => e = .returned (.bool true) ∧ Below w'.heap.size w' w'')) :
    Calls Tryd.prog 3 #[dV f cl ng A l.length c ex, .int .i64 m, .agg #[.int .u64 hi, .int .u64 lo]] w fun e w' => e = .returned (.bool true) ∧ Below w.heap.size w w' := by
  have HC0 := Lib.hid hA
  have HLI := Lib.hid hli
  have HT := Lib.hid hT
  clear hA hli hT
  rcases hv with ⟨rfl, rfl⟩ | ⟨rfl, rfl, rfl, rfl⟩
  · have HE2 := HRe rfl
    clear HRe
    go_enter Tryd.func3, Tryd.ntmps3
    go_wp2_with (first | fail | (go_at_call 10; (with_reducible refine (light_at1 _ _ _ (by simp) HLI.out).mono ?_); rintro e w1 ⟨rfl, b1⟩; obtain ⟨hc1, hf1⟩ := bcell b1; have hz1 := below_size b1; (try simp at hz1); have zz1_0 : w.heap.size < w1.heap.size := (by omega); have zz1_1 : w.heap.size + 1 < w1.heap.size := (by omega)) | (go_at_call 12; (with_reducible refine (HEn.out _ (Kd.C_below HC0.out bel)).mono ?_); rintro e w2 ⟨rfl, b2⟩; obtain ⟨hc2, hf2⟩ := bcell b2; have hz2 := below_size b2; (try simp at hz2); have zz2_0 : w.heap.size < w2.heap.size := (by omega); have zz2_1 : w.heap.size + 1 < w2.heap.size := (by omega)) | (go_at_call 13; (with_reducible refine (HVa.out _ (Kd.C_below HC0.out bel)).mono ?_); rintro e w3 ⟨rfl, b3⟩; obtain ⟨hc3, hf3⟩ := bcell b3; have hz3 := below_size b3; (try simp at hz3); have zz3_0 : w.heap.size < w3.heap.size := (by omega); have zz3_1 : w.heap.size + 1 < w3.heap.size := (by omega); have zz3_2 : w2.heap.size < w3.heap.size := (by omega)))
    go_region_held3 (fun w' => Below (w3).heap.size (w3) w' ∧ ∀ b o, b < (w3).heap.size → w'.cell? ⟨b, o, none⟩ = (w3).cell? ⟨b, o, none⟩) (first | ((try go_split_ands); refine below_S ?_; ((repeat (first | with_reducible assumption | with_reducible exact Below.refl _ _ | with_reducible refine below_alloc ?_ _ | with_reducible refine pw_below_drewN ?_ _ | with_reducible refine below_drew1 ?_ | ((with_reducible refine below_set ?_ ?hle); (case hle => first | (simp; done) | omega | (simp; omega))) | with_reducible refine below_step ?_ (by with_reducible assumption))); done))) (first | (go_at_call 14; (with_reducible refine (HE2.out _ (Kd.C_below HC0.out bel)).mono ?_); rintro e w4 ⟨rfl, b4⟩; obtain ⟨hc4, hf4⟩ := bcell b4; (try simp only [dr_size, dr_cell] at hc4); (try simp only [dr_size, dr_frozen] at hf4); have hz4 := below_size b4; (try simp at hz4); have zz4_0 : w.heap.size < w4.heap.size := (by omega); have zz4_1 : w.heap.size + 1 < w4.heap.size := (by omega); have zz4_2 : w2.heap.size < w4.heap.size := (by omega)))
    all_goals
      go_wp2_with (first | fail | (go_at_call 15; (with_reducible refine (HDe.out _).mono ?_); rintro e w11 ⟨v11, rfl, hv11, b11⟩; obtain ⟨A11, c11, rfl⟩ := Kd.R_slice hv11; have HC11 := Lib.hid (R_C hv11); clear hv11; obtain ⟨hc11, hf11⟩ := bcell b11; have hz11 := below_size b11; (try simp at hz11); have zz11_0 : w.heap.size < w11.heap.size := (by omega); have zz11_1 : w.heap.size + 1 < w11.heap.size := (by omega)) | (go_at_call 16; (with_reducible refine (HCa.out _).mono ?_); rintro e w12 ⟨rfl, b12⟩; obtain ⟨hc12, hf12⟩ := bcell b12; have hz12 := below_size b12; (try simp at hz12); have zz12_0 : w.heap.size < w12.heap.size := (by omega); have zz12_1 : w.heap.size + 1 < w12.heap.size := (by omega); have zz12_2 : w11.heap.size < w12.heap.size := (by omega)) | (go_at_call 17; (with_reducible refine (HIF.out _).mono ?_); rintro e w13 ⟨rfl, b13⟩; obtain ⟨hc13, hf13⟩ := bcell b13; have hz13 := below_size b13; (try simp at hz13); have zz13_0 : w.heap.size < w13.heap.size := (by omega); have zz13_1 : w.heap.size + 1 < w13.heap.size := (by omega); have zz13_2 : w11.heap.size < w13.heap.size := (by omega)) | (go_at_call 11; (with_reducible refine (HSa.out _ (HT.out.below bel)).mono ?_); rintro e w15 ⟨rfl, b15⟩; obtain ⟨hc15, hf15⟩ := bcell b15; have hz15 := below_size b15; (try simp at hz15); have zz15_0 : w.heap.size < w15.heap.size := (by omega); have zz15_1 : w.heap.size + 1 < w15.heap.size := (by omega); have zz15_2 : w11.heap.size < w15.heap.size := (by omega)) | (go_at_call 19; (with_reducible refine (HSm.out _ _ _ (Kd.C_below HC11.out.1 bel) HC11.out.2).mono ?_); rintro e w16 ⟨rfl, b16⟩; obtain ⟨hc16, hf16⟩ := bcell b16; have hz16 := below_size b16; (try simp at hz16); have zz16_0 : w.heap.size < w16.heap.size := (by omega); have zz16_1 : w.heap.size + 1 < w16.heap.size := (by omega); have zz16_2 : w11.heap.size < w16.heap.size := (by omega)))
      all_goals
        go_ret
        exact ⟨by simp, bel⟩
  · clear HRe
    go_enter Tryd.func3, Tryd.ntmps3
    go_wp2_with (first | fail | (go_at_call 10; (with_reducible refine (light_at1 _ _ _ (by simp) HLI.out).mono ?_); rintro e w1 ⟨rfl, b1⟩; obtain ⟨hc1, hf1⟩ := bcell b1; have hz1 := below_size b1; (try simp at hz1); have zz1_0 : w.heap.size < w1.heap.size := (by omega); have zz1_1 : w.heap.size + 1 < w1.heap.size := (by omega)) | (go_at_call 12; (with_reducible refine (HEn.out _ (Kd.C_below HC0.out bel)).mono ?_); rintro e w2 ⟨rfl, b2⟩; obtain ⟨hc2, hf2⟩ := bcell b2; have hz2 := below_size b2; (try simp at hz2); have zz2_0 : w.heap.size < w2.heap.size := (by omega); have zz2_1 : w.heap.size + 1 < w2.heap.size := (by omega)) | (go_at_call 13; (with_reducible refine (HVa.out _ (Kd.C_below HC0.out bel)).mono ?_); rintro e w3 ⟨rfl, b3⟩; obtain ⟨hc3, hf3⟩ := bcell b3; have hz3 := below_size b3; (try simp at hz3); have zz3_0 : w.heap.size < w3.heap.size := (by omega); have zz3_1 : w.heap.size + 1 < w3.heap.size := (by omega); have zz3_2 : w2.heap.size < w3.heap.size := (by omega)) | (go_at_call 15; (with_reducible refine (HDe.out _).mono ?_); rintro e w11 ⟨v11, rfl, hv11, b11⟩; obtain ⟨A11, c11, rfl⟩ := Kd.R_slice hv11; have HC11 := Lib.hid (R_C hv11); clear hv11; obtain ⟨hc11, hf11⟩ := bcell b11; have hz11 := below_size b11; (try simp at hz11); have zz11_0 : w.heap.size < w11.heap.size := (by omega); have zz11_1 : w.heap.size + 1 < w11.heap.size := (by omega)) | (go_at_call 16; (with_reducible refine (HCa.out _).mono ?_); rintro e w12 ⟨rfl, b12⟩; obtain ⟨hc12, hf12⟩ := bcell b12; have hz12 := below_size b12; (try simp at hz12); have zz12_0 : w.heap.size < w12.heap.size := (by omega); have zz12_1 : w.heap.size + 1 < w12.heap.size := (by omega); have zz12_2 : w11.heap.size < w12.heap.size := (by omega)) | (go_at_call 17; (with_reducible refine (HIF.out _).mono ?_); rintro e w13 ⟨rfl, b13⟩; obtain ⟨hc13, hf13⟩ := bcell b13; have hz13 := below_size b13; (try simp at hz13); have zz13_0 : w.heap.size < w13.heap.size := (by omega); have zz13_1 : w.heap.size + 1 < w13.heap.size := (by omega); have zz13_2 : w11.heap.size < w13.heap.size := (by omega)) | (go_at_call 11; (with_reducible refine (HSa.out _ (HT.out.below bel)).mono ?_); rintro e w15 ⟨rfl, b15⟩; obtain ⟨hc15, hf15⟩ := bcell b15; have hz15 := below_size b15; (try simp at hz15); have zz15_0 : w.heap.size < w15.heap.size := (by omega); have zz15_1 : w.heap.size + 1 < w15.heap.size := (by omega); have zz15_2 : w11.heap.size < w15.heap.size := (by omega)) | (go_at_call 19; (with_reducible refine (HSm.out _ _ _ (Kd.C_below HC11.out.1 bel) HC11.out.2).mono ?_); rintro e w16 ⟨rfl, b16⟩; obtain ⟨hc16, hf16⟩ := bcell b16; have hz16 := below_size b16; (try simp at hz16); have zz16_0 : w.heap.size < w16.heap.size := (by omega); have zz16_1 : w.heap.size + 1 < w16.heap.size := (by omega); have zz16_2 : w11.heap.size < w16.heap.size := (by omega)))
    all_goals
      go_ret
      exact ⟨by simp, bel⟩
set_option maxHeartbeats 8000000 in
theorem bits_nohas {f cl ex m hi lo h l1 er : Int} {ng v : Bool} {A : Option Addr} {c : Nat} {l ys : List Int} (w : World)
    (hA : Kd.C (Kd.int .u32) w A l.length l) (hli : light1 l = some true) (hT : Tab w)
    (HEn : Hid (∀ w', Kd.C (Kd.int .u32) w' A l.length l → Calls Tryd.prog 12 #[dV f cl ng A l.length c ex] w' fun e w'' => e = .returned (.tuple #[.agg #[.int .u64 h, .int .u64 l1], .int .i64 er]) ∧ Below w'.heap.size w' w''))
    (HVa : Hid (∀ w', Kd.C (Kd.int .u32) w' A l.length l → Calls Tryd.prog 13 #[dV f cl ng A l.length c ex] w' fun e w'' => e = .returned (.bool v) ∧ Below w'.heap.size w' w''))
    (HRe : v = true → Hid (∀ w', Kd.C (Kd.int .u32) w' A l.length l → Calls Tryd.prog 14 #[dV f cl ng A l.length c ex] w' fun e w'' => e = .returned (.agg #[.int .u64 h, .int .u64 l1]) ∧ Below w'.heap.size w' w''))
    (hv : v = true ∧ er = 0 ∨ v = false ∧ er = 1 ∧ h = 0 ∧ l1 = 0)
    (HSa : Hid (∀ w', Tab w' → Calls Tryd.prog 11 #[] w' fun e w'' => e = .returned (.bool true) ∧ Below w'.heap.size w' w''))
    (HDe : Hid (∀ w', Calls Tryd.prog 15 #[.int .i64 m, .agg #[.int .u64 hi, .int .u64 lo]] w' fun e w'' => ∃ v3 : Value, e = .returned (.tuple #[.agg #[.int .i64 0, .int .i64 0, .bool false, v3, .int .i64 0], .int .i64 1]) ∧ Kd.R (Kd.int .u32) 77 w'' w'.heap.size (fun _ => True) v3 ys ∧ Below w'.heap.size w' w''))
    (HCa : Hid (∀ w', Calls Tryd.prog 16 #[.int .i64 m, .agg #[.int .u64 hi, .int .u64 lo]] w' fun e w'' => e = .returned (.tuple #[.bool false, .int .i64 1]) ∧ Below w'.heap.size w' w''))
    (HIF : Hid (∀ w', Calls Tryd.prog 17 #[.int .i64 m] w' fun e w'' => e = .returned (.bool true) ∧ Below w'.heap.size w' w''))
    (HHa : Hid (∀ w', Calls Tryd.prog 18 #[.int .i64 m, .agg #[.int .u64 hi, .int .u64 lo]] w' fun e w'' => e = .returned (.bool false) ∧ Below w'.heap.size w' w''))
    (HSm : Hid (∀ A c w', Kd.C (Kd.int .u32) w' A ys.length ys → ys.length ≤ c → Calls Tryd.prog 19 #[.agg #[.int .i64 0, .int .i64 0, .bool false, .slice A ys.length c, .int .i64 0], .agg #[.int .i64 0, .int .i64 0, .bool false, .slice none 0 0, .int .i64 0]] w' fun e w'' => e = .returned (.bool true) ∧ Below w'.heap.size w' w'')) :
    Calls Tryd.prog 3 #[dV f cl ng A l.length c ex, .int .i64 m, .agg #[.int .u64 hi, .int .u64 lo]] w fun e w' => e = .returned (.bool true) ∧ Below w.heap.size w w' := by
  have HC0 := Lib.hid hA
  have HLI := Lib.hid hli
  have HT := Lib.hid hT
  clear hA hli hT
  rcases hv with ⟨rfl, rfl⟩ | ⟨rfl, rfl, rfl, rfl⟩
  · have HE2 := HRe rfl
    clear HRe
    go_enter Tryd.func3, Tryd.ntmps3
    go_wp2_with (first | fail | (go_at_call 10; (with_reducible refine (light_at1 _ _ _ (by simp) HLI.out).mono ?_); rintro e w1 ⟨rfl, b1⟩; obtain ⟨hc1, hf1⟩ := bcell b1; have hz1 := below_size b1; (try simp at hz1); have zz1_0 : w.heap.size < w1.heap.size := (by omega); have zz1_1 : w.heap.size + 1 < w1.heap.size := (by omega)) | (go_at_call 12; (with_reducible refine (HEn.out _ (Kd.C_below HC0.out bel)).mono ?_); rintro e w2 ⟨rfl, b2⟩; obtain ⟨hc2, hf2⟩ := bcell b2; have hz2 := below_size b2; (try simp at hz2); have zz2_0 : w.heap.size < w2.heap.size := (by omega); have zz2_1 : w.heap.size + 1 < w2.heap.size := (by omega)) | (go_at_call 13; (with_reducible refine (HVa.out _ (Kd.C_below HC0.out bel)).mono ?_); rintro e w3 ⟨rfl, b3⟩; obtain ⟨hc3, hf3⟩ := bcell b3; have hz3 := below_size b3; (try simp at hz3); have zz3_0 : w.heap.size < w3.heap.size := (by omega); have zz3_1 : w.heap.size + 1 < w3.heap.size := (by omega); have zz3_2 : w2.heap.size < w3.heap.size := (by omega)))
    go_region_held3 (fun w' => Below (w3).heap.size (w3) w' ∧ ∀ b o, b < (w3).heap.size → w'.cell? ⟨b, o, none⟩ = (w3).cell? ⟨b, o, none⟩) (first | ((try go_split_ands); refine below_S ?_; ((repeat (first | with_reducible assumption | with_reducible exact Below.refl _ _ | with_reducible refine below_alloc ?_ _ | with_reducible refine pw_below_drewN ?_ _ | with_reducible refine below_drew1 ?_ | ((with_reducible refine below_set ?_ ?hle); (case hle => first | (simp; done) | omega | (simp; omega))) | with_reducible refine below_step ?_ (by with_reducible assumption))); done))) (first | (go_at_call 14; (with_reducible refine (HE2.out _ (Kd.C_below HC0.out bel)).mono ?_); rintro e w4 ⟨rfl, b4⟩; obtain ⟨hc4, hf4⟩ := bcell b4; (try simp only [dr_size, dr_cell] at hc4); (try simp only [dr_size, dr_frozen] at hf4); have hz4 := below_size b4; (try simp at hz4); have zz4_0 : w.heap.size < w4.heap.size := (by omega); have zz4_1 : w.heap.size + 1 < w4.heap.size := (by omega); have zz4_2 : w2.heap.size < w4.heap.size := (by omega)))
    all_goals
      go_wp2_with (first | fail | (go_at_call 15; (with_reducible refine (HDe.out _).mono ?_); rintro e w11 ⟨v11, rfl, hv11, b11⟩; obtain ⟨A11, c11, rfl⟩ := Kd.R_slice hv11; have HC11 := Lib.hid (R_C hv11); clear hv11; obtain ⟨hc11, hf11⟩ := bcell b11; have hz11 := below_size b11; (try simp at hz11); have zz11_0 : w.heap.size < w11.heap.size := (by omega); have zz11_1 : w.heap.size + 1 < w11.heap.size := (by omega)) | (go_at_call 16; (with_reducible refine (HCa.out _).mono ?_); rintro e w12 ⟨rfl, b12⟩; obtain ⟨hc12, hf12⟩ := bcell b12; have hz12 := below_size b12; (try simp at hz12); have zz12_0 : w.heap.size < w12.heap.size := (by omega); have zz12_1 : w.heap.size + 1 < w12.heap.size := (by omega); have zz12_2 : w11.heap.size < w12.heap.size := (by omega)) | (go_at_call 17; (with_reducible refine (HIF.out _).mono ?_); rintro e w13 ⟨rfl, b13⟩; obtain ⟨hc13, hf13⟩ := bcell b13; have hz13 := below_size b13; (try simp at hz13); have zz13_0 : w.heap.size < w13.heap.size := (by omega); have zz13_1 : w.heap.size + 1 < w13.heap.size := (by omega); have zz13_2 : w11.heap.size < w13.heap.size := (by omega)) | (go_at_call 18; (with_reducible refine (HHa.out _).mono ?_); rintro e w14 ⟨rfl, b14⟩; obtain ⟨hc14, hf14⟩ := bcell b14; have hz14 := below_size b14; (try simp at hz14); have zz14_0 : w.heap.size < w14.heap.size := (by omega); have zz14_1 : w.heap.size + 1 < w14.heap.size := (by omega); have zz14_2 : w11.heap.size < w14.heap.size := (by omega)) | (go_at_call 11; (with_reducible refine (HSa.out _ (HT.out.below bel)).mono ?_); rintro e w15 ⟨rfl, b15⟩; obtain ⟨hc15, hf15⟩ := bcell b15; have hz15 := below_size b15; (try simp at hz15); have zz15_0 : w.heap.size < w15.heap.size := (by omega); have zz15_1 : w.heap.size + 1 < w15.heap.size := (by omega); have zz15_2 : w11.heap.size < w15.heap.size := (by omega)) | (go_at_call 19; (with_reducible refine (HSm.out _ _ _ (Kd.C_below HC11.out.1 bel) HC11.out.2).mono ?_); rintro e w16 ⟨rfl, b16⟩; obtain ⟨hc16, hf16⟩ := bcell b16; have hz16 := below_size b16; (try simp at hz16); have zz16_0 : w.heap.size < w16.heap.size := (by omega); have zz16_1 : w.heap.size + 1 < w16.heap.size := (by omega); have zz16_2 : w11.heap.size < w16.heap.size := (by omega)))
      all_goals
        go_ret
        exact ⟨by simp, bel⟩
  · clear HRe
    go_enter Tryd.func3, Tryd.ntmps3
    go_wp2_with (first | fail | (go_at_call 10; (with_reducible refine (light_at1 _ _ _ (by simp) HLI.out).mono ?_); rintro e w1 ⟨rfl, b1⟩; obtain ⟨hc1, hf1⟩ := bcell b1; have hz1 := below_size b1; (try simp at hz1); have zz1_0 : w.heap.size < w1.heap.size := (by omega); have zz1_1 : w.heap.size + 1 < w1.heap.size := (by omega)) | (go_at_call 12; (with_reducible refine (HEn.out _ (Kd.C_below HC0.out bel)).mono ?_); rintro e w2 ⟨rfl, b2⟩; obtain ⟨hc2, hf2⟩ := bcell b2; have hz2 := below_size b2; (try simp at hz2); have zz2_0 : w.heap.size < w2.heap.size := (by omega); have zz2_1 : w.heap.size + 1 < w2.heap.size := (by omega)) | (go_at_call 13; (with_reducible refine (HVa.out _ (Kd.C_below HC0.out bel)).mono ?_); rintro e w3 ⟨rfl, b3⟩; obtain ⟨hc3, hf3⟩ := bcell b3; have hz3 := below_size b3; (try simp at hz3); have zz3_0 : w.heap.size < w3.heap.size := (by omega); have zz3_1 : w.heap.size + 1 < w3.heap.size := (by omega); have zz3_2 : w2.heap.size < w3.heap.size := (by omega)) | (go_at_call 15; (with_reducible refine (HDe.out _).mono ?_); rintro e w11 ⟨v11, rfl, hv11, b11⟩; obtain ⟨A11, c11, rfl⟩ := Kd.R_slice hv11; have HC11 := Lib.hid (R_C hv11); clear hv11; obtain ⟨hc11, hf11⟩ := bcell b11; have hz11 := below_size b11; (try simp at hz11); have zz11_0 : w.heap.size < w11.heap.size := (by omega); have zz11_1 : w.heap.size + 1 < w11.heap.size := (by omega)) | (go_at_call 16; (with_reducible refine (HCa.out _).mono ?_); rintro e w12 ⟨rfl, b12⟩; obtain ⟨hc12, hf12⟩ := bcell b12; have hz12 := below_size b12; (try simp at hz12); have zz12_0 : w.heap.size < w12.heap.size := (by omega); have zz12_1 : w.heap.size + 1 < w12.heap.size := (by omega); have zz12_2 : w11.heap.size < w12.heap.size := (by omega)) | (go_at_call 17; (with_reducible refine (HIF.out _).mono ?_); rintro e w13 ⟨rfl, b13⟩; obtain ⟨hc13, hf13⟩ := bcell b13; have hz13 := below_size b13; (try simp at hz13); have zz13_0 : w.heap.size < w13.heap.size := (by omega); have zz13_1 : w.heap.size + 1 < w13.heap.size := (by omega); have zz13_2 : w11.heap.size < w13.heap.size := (by omega)) | (go_at_call 18; (with_reducible refine (HHa.out _).mono ?_); rintro e w14 ⟨rfl, b14⟩; obtain ⟨hc14, hf14⟩ := bcell b14; have hz14 := below_size b14; (try simp at hz14); have zz14_0 : w.heap.size < w14.heap.size := (by omega); have zz14_1 : w.heap.size + 1 < w14.heap.size := (by omega); have zz14_2 : w11.heap.size < w14.heap.size := (by omega)) | (go_at_call 11; (with_reducible refine (HSa.out _ (HT.out.below bel)).mono ?_); rintro e w15 ⟨rfl, b15⟩; obtain ⟨hc15, hf15⟩ := bcell b15; have hz15 := below_size b15; (try simp at hz15); have zz15_0 : w.heap.size < w15.heap.size := (by omega); have zz15_1 : w.heap.size + 1 < w15.heap.size := (by omega); have zz15_2 : w11.heap.size < w15.heap.size := (by omega)) | (go_at_call 19; (with_reducible refine (HSm.out _ _ _ (Kd.C_below HC11.out.1 bel) HC11.out.2).mono ?_); rintro e w16 ⟨rfl, b16⟩; obtain ⟨hc16, hf16⟩ := bcell b16; have hz16 := below_size b16; (try simp at hz16); have zz16_0 : w.heap.size < w16.heap.size := (by omega); have zz16_1 : w.heap.size + 1 < w16.heap.size := (by omega); have zz16_2 : w11.heap.size < w16.heap.size := (by omega)))
    all_goals
      go_ret
      exact ⟨by simp, bel⟩
set_option maxHeartbeats 8000000 in
theorem bits_ok {f cl ex m hi lo h l1 er cl2 ex2 h2 l2 : Int} {ng v ng2 : Bool} {A : Option Addr} {c : Nat} {l ys : List Int} (w : World)
    (hA : Kd.C (Kd.int .u32) w A l.length l) (hli : light1 l = some true) (hT : Tab w)
    (HEn : Hid (∀ w', Kd.C (Kd.int .u32) w' A l.length l → Calls Tryd.prog 12 #[dV f cl ng A l.length c ex] w' fun e w'' => e = .returned (.tuple #[.agg #[.int .u64 h, .int .u64 l1], .int .i64 er]) ∧ Below w'.heap.size w' w''))
    (HVa : Hid (∀ w', Kd.C (Kd.int .u32) w' A l.length l → Calls Tryd.prog 13 #[dV f cl ng A l.length c ex] w' fun e w'' => e = .returned (.bool v) ∧ Below w'.heap.size w' w''))
    (HRe : v = true → Hid (∀ w', Kd.C (Kd.int .u32) w' A l.length l → Calls Tryd.prog 14 #[dV f cl ng A l.length c ex] w' fun e w'' => e = .returned (.agg #[.int .u64 h, .int .u64 l1]) ∧ Below w'.heap.size w' w''))
    (hv : v = true ∧ er = 0 ∨ v = false ∧ er = 1 ∧ h = 0 ∧ l1 = 0)
    (HSa : Hid (∀ w', Tab w' → Calls Tryd.prog 11 #[] w' fun e w'' => e = .returned (.bool true) ∧ Below w'.heap.size w' w''))
    (HDe : Hid (∀ w', Calls Tryd.prog 15 #[.int .i64 m, .agg #[.int .u64 hi, .int .u64 lo]] w' fun e w'' => ∃ v3 : Value, e = .returned (.tuple #[.agg #[.int .i64 m, .int .i64 cl2, .bool ng2, v3, .int .i64 ex2], .int .i64 0]) ∧ Kd.R (Kd.int .u32) 77 w'' w'.heap.size (fun _ => True) v3 ys ∧ Below w'.heap.size w' w''))
    (HCa : Hid (∀ w', Calls Tryd.prog 16 #[.int .i64 m, .agg #[.int .u64 hi, .int .u64 lo]] w' fun e w'' => e = .returned (.tuple #[.bool (h2 == hi && (l2 == lo)), .int .i64 0]) ∧ Below w'.heap.size w' w''))
    (HIF : Hid (∀ w', Calls Tryd.prog 17 #[.int .i64 m] w' fun e w'' => e = .returned (.bool true) ∧ Below w'.heap.size w' w''))
    (HHa : Hid (∀ w', Calls Tryd.prog 18 #[.int .i64 m, .agg #[.int .u64 hi, .int .u64 lo]] w' fun e w'' => e = .returned (.bool true) ∧ Below w'.heap.size w' w''))
    (HRd : Hid (∀ w', Calls Tryd.prog 20 #[.int .i64 m, .agg #[.int .u64 hi, .int .u64 lo]] w' (RetD m cl2 ng2 ys ex2 w')))
    (HSm : Hid (∀ A c A' c' w', Kd.C (Kd.int .u32) w' A ys.length ys → ys.length ≤ c → Kd.C (Kd.int .u32) w' A' ys.length ys → ys.length ≤ c' → Calls Tryd.prog 19 #[.agg #[.int .i64 m, .int .i64 cl2, .bool ng2, .slice A ys.length c, .int .i64 ex2], .agg #[.int .i64 m, .int .i64 cl2, .bool ng2, .slice A' ys.length c', .int .i64 ex2]] w' fun e w'' => e = .returned (.bool true) ∧ Below w'.heap.size w' w''))
    (HR2 : Hid (∀ A c w', Kd.C (Kd.int .u32) w' A ys.length ys → ys.length ≤ c → Calls Tryd.prog 14 #[dV m cl2 ng2 A ys.length c ex2] w' fun e w'' => e = .returned (.agg #[.int .u64 h2, .int .u64 l2]) ∧ Below w'.heap.size w' w'')) :
    Calls Tryd.prog 3 #[dV f cl ng A l.length c ex, .int .i64 m, .agg #[.int .u64 hi, .int .u64 lo]] w fun e w' => e = .returned (.bool true) ∧ Below w.heap.size w w' := by
  have HC0 := Lib.hid hA
  have HLI := Lib.hid hli
  have HT := Lib.hid hT
  clear hA hli hT
  rcases hv with ⟨rfl, rfl⟩ | ⟨rfl, rfl, rfl, rfl⟩
  · have HE2 := HRe rfl
    clear HRe
    go_enter Tryd.func3, Tryd.ntmps3
    go_wp2_with (first | fail | (go_at_call 10; (with_reducible refine (light_at1 _ _ _ (by simp) HLI.out).mono ?_); rintro e w1 ⟨rfl, b1⟩; obtain ⟨hc1, hf1⟩ := bcell b1; have hz1 := below_size b1; (try simp at hz1); have zz1_0 : w.heap.size < w1.heap.size := (by omega); have zz1_1 : w.heap.size + 1 < w1.heap.size := (by omega)) | (go_at_call 12; (with_reducible refine (HEn.out _ (Kd.C_below HC0.out bel)).mono ?_); rintro e w2 ⟨rfl, b2⟩; obtain ⟨hc2, hf2⟩ := bcell b2; have hz2 := below_size b2; (try simp at hz2); have zz2_0 : w.heap.size < w2.heap.size := (by omega); have zz2_1 : w.heap.size + 1 < w2.heap.size := (by omega)) | (go_at_call 13; (with_reducible refine (HVa.out _ (Kd.C_below HC0.out bel)).mono ?_); rintro e w3 ⟨rfl, b3⟩; obtain ⟨hc3, hf3⟩ := bcell b3; have hz3 := below_size b3; (try simp at hz3); have zz3_0 : w.heap.size < w3.heap.size := (by omega); have zz3_1 : w.heap.size + 1 < w3.heap.size := (by omega); have zz3_2 : w2.heap.size < w3.heap.size := (by omega)))
    go_region_held3 (fun w' => Below (w3).heap.size (w3) w' ∧ ∀ b o, b < (w3).heap.size → w'.cell? ⟨b, o, none⟩ = (w3).cell? ⟨b, o, none⟩) (first | ((try go_split_ands); refine below_S ?_; ((repeat (first | with_reducible assumption | with_reducible exact Below.refl _ _ | with_reducible refine below_alloc ?_ _ | with_reducible refine pw_below_drewN ?_ _ | with_reducible refine below_drew1 ?_ | ((with_reducible refine below_set ?_ ?hle); (case hle => first | (simp; done) | omega | (simp; omega))) | with_reducible refine below_step ?_ (by with_reducible assumption))); done))) (first | (go_at_call 14; (with_reducible refine (HE2.out _ (Kd.C_below HC0.out bel)).mono ?_); rintro e w4 ⟨rfl, b4⟩; obtain ⟨hc4, hf4⟩ := bcell b4; (try simp only [dr_size, dr_cell] at hc4); (try simp only [dr_size, dr_frozen] at hf4); have hz4 := below_size b4; (try simp at hz4); have zz4_0 : w.heap.size < w4.heap.size := (by omega); have zz4_1 : w.heap.size + 1 < w4.heap.size := (by omega); have zz4_2 : w2.heap.size < w4.heap.size := (by omega)))
    all_goals
      go_upto_region 13 with (first | fail | (go_at_call 15; (with_reducible refine (HDe.out _).mono ?_); rintro e w11 ⟨v11, rfl, hv11, b11⟩; obtain ⟨A11, c11, rfl⟩ := Kd.R_slice hv11; have HC11 := Lib.hid (R_C hv11); clear hv11; obtain ⟨hc11, hf11⟩ := bcell b11; have hz11 := below_size b11; (try simp at hz11); have zz11_0 : w.heap.size < w11.heap.size := (by omega); have zz11_1 : w.heap.size + 1 < w11.heap.size := (by omega)) | (go_at_call 16; (with_reducible refine (HCa.out _).mono ?_); rintro e w12 ⟨rfl, b12⟩; obtain ⟨hc12, hf12⟩ := bcell b12; have hz12 := below_size b12; (try simp at hz12); have zz12_0 : w.heap.size < w12.heap.size := (by omega); have zz12_1 : w.heap.size + 1 < w12.heap.size := (by omega); have zz12_2 : w11.heap.size < w12.heap.size := (by omega)) | (go_at_call 17; (with_reducible refine (HIF.out _).mono ?_); rintro e w13 ⟨rfl, b13⟩; obtain ⟨hc13, hf13⟩ := bcell b13; have hz13 := below_size b13; (try simp at hz13); have zz13_0 : w.heap.size < w13.heap.size := (by omega); have zz13_1 : w.heap.size + 1 < w13.heap.size := (by omega); have zz13_2 : w11.heap.size < w13.heap.size := (by omega)) | (go_at_call 18; (with_reducible refine (HHa.out _).mono ?_); rintro e w14 ⟨rfl, b14⟩; obtain ⟨hc14, hf14⟩ := bcell b14; have hz14 := below_size b14; (try simp at hz14); have zz14_0 : w.heap.size < w14.heap.size := (by omega); have zz14_1 : w.heap.size + 1 < w14.heap.size := (by omega); have zz14_2 : w11.heap.size < w14.heap.size := (by omega)))
      go_cut [5, 9, 10, 11, 12, 13] (fun v5 v9 v10 v11 v12 v13 wx => ∃ (p q : Nat) (A : Option Addr) (c : Nat) (A' : Option Addr) (c' : Nat), v5 = .pointer (some ⟨w.heap.size + 1, 0, none⟩) ∧ v9 = .pointer (some ⟨p, 0, none⟩) ∧ v10 = .int .i64 0 ∧ v11 = .bool (h2 == hi && (l2 == lo)) ∧ v12 = .int .i64 0 ∧ v13 = .pointer (some ⟨q, 0, none⟩) ∧ BlkIs wx (w.heap.size + 1) 28 (· = #[.int .u64 hi, .int .u64 lo]) ∧ BlkIs wx p 25 (· = #[.int .i64 m, .int .i64 cl2, .bool ng2, .slice A ys.length c, .int .i64 ex2]) ∧ BlkIs wx q 25 (· = #[.int .i64 m, .int .i64 cl2, .bool ng2, .slice A' ys.length c', .int .i64 ex2]) ∧ Hid (Kd.C (Kd.int .u32) wx A ys.length ys ∧ ys.length ≤ c) ∧ Hid (Kd.C (Kd.int .u32) wx A' ys.length ys ∧ ys.length ≤ c') ∧ Below w.heap.size w wx)
      case first =>
        go_wp2_with (first | fail | (go_at_call 20; (with_reducible refine (HRd.out _).mono ?_); rintro e w15 ⟨v15, rfl, hv15, b15⟩; obtain ⟨A15, c15, rfl⟩ := Kd.R_slice hv15; have HC15 := Lib.hid (R_C hv15); clear hv15; obtain ⟨hc15, hf15⟩ := bcell b15; have hz15 := below_size b15; (try simp at hz15); have zz15_0 : w.heap.size < w15.heap.size := (by omega); have zz15_1 : w.heap.size + 1 < w15.heap.size := (by omega); have zz15_2 : w11.heap.size < w15.heap.size := (by omega)))
        go_meet
        exact ⟨_, _, _, _, _, _, rfl, rfl, rfl, rfl, rfl, rfl, blk0, blk0, blk0, Lib.hid ⟨Kd.C_below HC11.out.1 bel, HC11.out.2⟩, Lib.hid ⟨Kd.C_below HC15.out.1 bel, HC15.out.2⟩, bel⟩
      case rest =>
        skip
        obtain ⟨p, q, A, c, A', c', rfl, rfl, rfl, rfl, rfl, rfl, HB5, HB9, HB13, HX, HY, hbw⟩ := hcut
        obtain ⟨cs5, hbk5, rfl⟩ := HB5
        obtain ⟨cs9, hbk9, rfl⟩ := HB9
        obtain ⟨cs13, hbk13, rfl⟩ := HB13
        have r0 : wc.cell? ⟨(w.heap.size + 1), 0, none⟩ = some (.int .u64 hi) := by simpa using blk_cell hbk5 0
        have r1 : wc.cell? ⟨(w.heap.size + 1), 1, none⟩ = some (.int .u64 lo) := by simpa using blk_cell hbk5 1
        have rz : (w.heap.size + 1) < wc.heap.size := blk_lt hbk5
        have s0 : wc.cell? ⟨p, 0, none⟩ = some (.int .i64 m) := by simpa using blk_cell hbk9 0
        have s1 : wc.cell? ⟨p, 1, none⟩ = some (.int .i64 cl2) := by simpa using blk_cell hbk9 1
        have s2 : wc.cell? ⟨p, 2, none⟩ = some (.bool ng2) := by simpa using blk_cell hbk9 2
        have s3 : wc.cell? ⟨p, 3, none⟩ = some (.slice A ys.length c) := by simpa using blk_cell hbk9 3
        have s4 : wc.cell? ⟨p, 4, none⟩ = some (.int .i64 ex2) := by simpa using blk_cell hbk9 4
        have sz : p < wc.heap.size := blk_lt hbk9
        have t0 : wc.cell? ⟨q, 0, none⟩ = some (.int .i64 m) := by simpa using blk_cell hbk13 0
        have t1 : wc.cell? ⟨q, 1, none⟩ = some (.int .i64 cl2) := by simpa using blk_cell hbk13 1
        have t2 : wc.cell? ⟨q, 2, none⟩ = some (.bool ng2) := by simpa using blk_cell hbk13 2
        have t3 : wc.cell? ⟨q, 3, none⟩ = some (.slice A' ys.length c') := by simpa using blk_cell hbk13 3
        have t4 : wc.cell? ⟨q, 4, none⟩ = some (.int .i64 ex2) := by simpa using blk_cell hbk13 4
        have tz : q < wc.heap.size := blk_lt hbk13
        clear hbk5 hbk9 hbk13
        have hEq := fun d w => XCanon.eqA28 d w h2 hi l2 lo
        go_wp2_with fail
        go_region_held3 (fun w' => Below (wc).heap.size (wc) w' ∧ ∀ b o, b < (wc).heap.size → w'.cell? ⟨b, o, none⟩ = (wc).cell? ⟨b, o, none⟩) (first | ((try go_split_ands); refine below_S ?_; ((repeat (first | with_reducible assumption | with_reducible exact Below.refl _ _ | with_reducible refine below_alloc ?_ _ | with_reducible refine pw_below_drewN ?_ _ | with_reducible refine below_drew1 ?_ | ((with_reducible refine below_set ?_ ?hle); (case hle => first | (simp; done) | omega | (simp; omega))) | with_reducible refine below_step ?_ (by with_reducible assumption))); done))) (first | (go_at_call 11; (with_reducible refine (HSa.out _ (HT.out.below bel)).mono ?_); rintro e w21 ⟨rfl, b21⟩; obtain ⟨hc21, hf21⟩ := bcell b21; (try simp only [dr_size, dr_cell] at hc21); (try simp only [dr_size, dr_frozen] at hf21); have hz21 := below_size b21; (try simp at hz21); have zz21_0 : w.heap.size + 1 < w21.heap.size := (by omega); have zz21_1 : p < w21.heap.size := (by omega); have zz21_2 : q < w21.heap.size := (by omega)) | (go_at_call 19; (with_reducible refine (HSm.out _ _ _ _ _ (Kd.C_below HX.out.1 bel) HX.out.2 (Kd.C_below HY.out.1 bel) HY.out.2).mono ?_); rintro e w22 ⟨rfl, b22⟩; obtain ⟨hc22, hf22⟩ := bcell b22; (try simp only [dr_size, dr_cell] at hc22); (try simp only [dr_size, dr_frozen] at hf22); have hz22 := below_size b22; (try simp at hz22); have zz22_0 : w.heap.size + 1 < w22.heap.size := (by omega); have zz22_1 : p < w22.heap.size := (by omega); have zz22_2 : q < w22.heap.size := (by omega)) | (go_at_call 14; (with_reducible refine (HR2.out _ _ _ (Kd.C_below HY.out.1 bel) HY.out.2).mono ?_); rintro e w23 ⟨rfl, b23⟩; obtain ⟨hc23, hf23⟩ := bcell b23; (try simp only [dr_size, dr_cell] at hc23); (try simp only [dr_size, dr_frozen] at hf23); have hz23 := below_size b23; (try simp at hz23); have zz23_0 : w.heap.size + 1 < w23.heap.size := (by omega); have zz23_1 : p < w23.heap.size := (by omega); have zz23_2 : q < w23.heap.size := (by omega)))
        all_goals
          go_wp2_with fail
          go_ret
          exact ⟨by simp, bel⟩
  · clear HRe
    go_enter Tryd.func3, Tryd.ntmps3
    go_upto_region 13 with (first | fail | (go_at_call 10; (with_reducible refine (light_at1 _ _ _ (by simp) HLI.out).mono ?_); rintro e w1 ⟨rfl, b1⟩; obtain ⟨hc1, hf1⟩ := bcell b1; have hz1 := below_size b1; (try simp at hz1); have zz1_0 : w.heap.size < w1.heap.size := (by omega); have zz1_1 : w.heap.size + 1 < w1.heap.size := (by omega)) | (go_at_call 12; (with_reducible refine (HEn.out _ (Kd.C_below HC0.out bel)).mono ?_); rintro e w2 ⟨rfl, b2⟩; obtain ⟨hc2, hf2⟩ := bcell b2; have hz2 := below_size b2; (try simp at hz2); have zz2_0 : w.heap.size < w2.heap.size := (by omega); have zz2_1 : w.heap.size + 1 < w2.heap.size := (by omega)) | (go_at_call 13; (with_reducible refine (HVa.out _ (Kd.C_below HC0.out bel)).mono ?_); rintro e w3 ⟨rfl, b3⟩; obtain ⟨hc3, hf3⟩ := bcell b3; have hz3 := below_size b3; (try simp at hz3); have zz3_0 : w.heap.size < w3.heap.size := (by omega); have zz3_1 : w.heap.size + 1 < w3.heap.size := (by omega); have zz3_2 : w2.heap.size < w3.heap.size := (by omega)) | (go_at_call 15; (with_reducible refine (HDe.out _).mono ?_); rintro e w11 ⟨v11, rfl, hv11, b11⟩; obtain ⟨A11, c11, rfl⟩ := Kd.R_slice hv11; have HC11 := Lib.hid (R_C hv11); clear hv11; obtain ⟨hc11, hf11⟩ := bcell b11; have hz11 := below_size b11; (try simp at hz11); have zz11_0 : w.heap.size < w11.heap.size := (by omega); have zz11_1 : w.heap.size + 1 < w11.heap.size := (by omega)) | (go_at_call 16; (with_reducible refine (HCa.out _).mono ?_); rintro e w12 ⟨rfl, b12⟩; obtain ⟨hc12, hf12⟩ := bcell b12; have hz12 := below_size b12; (try simp at hz12); have zz12_0 : w.heap.size < w12.heap.size := (by omega); have zz12_1 : w.heap.size + 1 < w12.heap.size := (by omega); have zz12_2 : w11.heap.size < w12.heap.size := (by omega)) | (go_at_call 17; (with_reducible refine (HIF.out _).mono ?_); rintro e w13 ⟨rfl, b13⟩; obtain ⟨hc13, hf13⟩ := bcell b13; have hz13 := below_size b13; (try simp at hz13); have zz13_0 : w.heap.size < w13.heap.size := (by omega); have zz13_1 : w.heap.size + 1 < w13.heap.size := (by omega); have zz13_2 : w11.heap.size < w13.heap.size := (by omega)) | (go_at_call 18; (with_reducible refine (HHa.out _).mono ?_); rintro e w14 ⟨rfl, b14⟩; obtain ⟨hc14, hf14⟩ := bcell b14; have hz14 := below_size b14; (try simp at hz14); have zz14_0 : w.heap.size < w14.heap.size := (by omega); have zz14_1 : w.heap.size + 1 < w14.heap.size := (by omega); have zz14_2 : w11.heap.size < w14.heap.size := (by omega)))
    go_cut [5, 9, 10, 11, 12, 13] (fun v5 v9 v10 v11 v12 v13 wx => ∃ (p q : Nat) (A : Option Addr) (c : Nat) (A' : Option Addr) (c' : Nat), v5 = .pointer (some ⟨w.heap.size + 1, 0, none⟩) ∧ v9 = .pointer (some ⟨p, 0, none⟩) ∧ v10 = .int .i64 0 ∧ v11 = .bool (h2 == hi && (l2 == lo)) ∧ v12 = .int .i64 0 ∧ v13 = .pointer (some ⟨q, 0, none⟩) ∧ BlkIs wx (w.heap.size + 1) 28 (· = #[.int .u64 hi, .int .u64 lo]) ∧ BlkIs wx p 25 (· = #[.int .i64 m, .int .i64 cl2, .bool ng2, .slice A ys.length c, .int .i64 ex2]) ∧ BlkIs wx q 25 (· = #[.int .i64 m, .int .i64 cl2, .bool ng2, .slice A' ys.length c', .int .i64 ex2]) ∧ Hid (Kd.C (Kd.int .u32) wx A ys.length ys ∧ ys.length ≤ c) ∧ Hid (Kd.C (Kd.int .u32) wx A' ys.length ys ∧ ys.length ≤ c') ∧ Below w.heap.size w wx)
    case first =>
      go_wp2_with (first | fail | (go_at_call 20; (with_reducible refine (HRd.out _).mono ?_); rintro e w15 ⟨v15, rfl, hv15, b15⟩; obtain ⟨A15, c15, rfl⟩ := Kd.R_slice hv15; have HC15 := Lib.hid (R_C hv15); clear hv15; obtain ⟨hc15, hf15⟩ := bcell b15; have hz15 := below_size b15; (try simp at hz15); have zz15_0 : w.heap.size < w15.heap.size := (by omega); have zz15_1 : w.heap.size + 1 < w15.heap.size := (by omega); have zz15_2 : w11.heap.size < w15.heap.size := (by omega)))
      go_meet
      exact ⟨_, _, _, _, _, _, rfl, rfl, rfl, rfl, rfl, rfl, blk0, blk0, blk0, Lib.hid ⟨Kd.C_below HC11.out.1 bel, HC11.out.2⟩, Lib.hid ⟨Kd.C_below HC15.out.1 bel, HC15.out.2⟩, bel⟩
    case rest =>
      skip
      obtain ⟨p, q, A, c, A', c', rfl, rfl, rfl, rfl, rfl, rfl, HB5, HB9, HB13, HX, HY, hbw⟩ := hcut
      obtain ⟨cs5, hbk5, rfl⟩ := HB5
      obtain ⟨cs9, hbk9, rfl⟩ := HB9
      obtain ⟨cs13, hbk13, rfl⟩ := HB13
      have r0 : wc.cell? ⟨(w.heap.size + 1), 0, none⟩ = some (.int .u64 hi) := by simpa using blk_cell hbk5 0
      have r1 : wc.cell? ⟨(w.heap.size + 1), 1, none⟩ = some (.int .u64 lo) := by simpa using blk_cell hbk5 1
      have rz : (w.heap.size + 1) < wc.heap.size := blk_lt hbk5
      have s0 : wc.cell? ⟨p, 0, none⟩ = some (.int .i64 m) := by simpa using blk_cell hbk9 0
      have s1 : wc.cell? ⟨p, 1, none⟩ = some (.int .i64 cl2) := by simpa using blk_cell hbk9 1
      have s2 : wc.cell? ⟨p, 2, none⟩ = some (.bool ng2) := by simpa using blk_cell hbk9 2
      have s3 : wc.cell? ⟨p, 3, none⟩ = some (.slice A ys.length c) := by simpa using blk_cell hbk9 3
      have s4 : wc.cell? ⟨p, 4, none⟩ = some (.int .i64 ex2) := by simpa using blk_cell hbk9 4
      have sz : p < wc.heap.size := blk_lt hbk9
      have t0 : wc.cell? ⟨q, 0, none⟩ = some (.int .i64 m) := by simpa using blk_cell hbk13 0
      have t1 : wc.cell? ⟨q, 1, none⟩ = some (.int .i64 cl2) := by simpa using blk_cell hbk13 1
      have t2 : wc.cell? ⟨q, 2, none⟩ = some (.bool ng2) := by simpa using blk_cell hbk13 2
      have t3 : wc.cell? ⟨q, 3, none⟩ = some (.slice A' ys.length c') := by simpa using blk_cell hbk13 3
      have t4 : wc.cell? ⟨q, 4, none⟩ = some (.int .i64 ex2) := by simpa using blk_cell hbk13 4
      have tz : q < wc.heap.size := blk_lt hbk13
      clear hbk5 hbk9 hbk13
      have hEq := fun d w => XCanon.eqA28 d w h2 hi l2 lo
      go_wp2_with fail
      go_region_held3 (fun w' => Below (wc).heap.size (wc) w' ∧ ∀ b o, b < (wc).heap.size → w'.cell? ⟨b, o, none⟩ = (wc).cell? ⟨b, o, none⟩) (first | ((try go_split_ands); refine below_S ?_; ((repeat (first | with_reducible assumption | with_reducible exact Below.refl _ _ | with_reducible refine below_alloc ?_ _ | with_reducible refine pw_below_drewN ?_ _ | with_reducible refine below_drew1 ?_ | ((with_reducible refine below_set ?_ ?hle); (case hle => first | (simp; done) | omega | (simp; omega))) | with_reducible refine below_step ?_ (by with_reducible assumption))); done))) (first | (go_at_call 11; (with_reducible refine (HSa.out _ (HT.out.below bel)).mono ?_); rintro e w21 ⟨rfl, b21⟩; obtain ⟨hc21, hf21⟩ := bcell b21; (try simp only [dr_size, dr_cell] at hc21); (try simp only [dr_size, dr_frozen] at hf21); have hz21 := below_size b21; (try simp at hz21); have zz21_0 : w.heap.size + 1 < w21.heap.size := (by omega); have zz21_1 : p < w21.heap.size := (by omega); have zz21_2 : q < w21.heap.size := (by omega)) | (go_at_call 19; (with_reducible refine (HSm.out _ _ _ _ _ (Kd.C_below HX.out.1 bel) HX.out.2 (Kd.C_below HY.out.1 bel) HY.out.2).mono ?_); rintro e w22 ⟨rfl, b22⟩; obtain ⟨hc22, hf22⟩ := bcell b22; (try simp only [dr_size, dr_cell] at hc22); (try simp only [dr_size, dr_frozen] at hf22); have hz22 := below_size b22; (try simp at hz22); have zz22_0 : w.heap.size + 1 < w22.heap.size := (by omega); have zz22_1 : p < w22.heap.size := (by omega); have zz22_2 : q < w22.heap.size := (by omega)) | (go_at_call 14; (with_reducible refine (HR2.out _ _ _ (Kd.C_below HY.out.1 bel) HY.out.2).mono ?_); rintro e w23 ⟨rfl, b23⟩; obtain ⟨hc23, hf23⟩ := bcell b23; (try simp only [dr_size, dr_cell] at hc23); (try simp only [dr_size, dr_frozen] at hf23); have hz23 := below_size b23; (try simp at hz23); have zz23_0 : w.heap.size + 1 < w23.heap.size := (by omega); have zz23_1 : p < w23.heap.size := (by omega); have zz23_2 : q < w23.heap.size := (by omega)))
      all_goals
        go_wp2_with fail
        go_ret
        exact ⟨by simp, bel⟩
end Go.Proofs.YtacnkcojhlbkoaaDoor

set_option linter.unusedSimpArgs false
set_option linter.unusedVariables false
set_option linter.unnecessarySimpa false
namespace Go.Proofs.YtacnkcojhlbkoaaDoor
open Go.RowKit Go.Proofs.YtacnkcojhlbkoaaDoorW.PrintWords Go.Proofs.YtacnkcojhlbkoaaDoorW.PrintLast Go.Proofs.YtacnkcojhlbkoaaDoorW.PrintMore Go.Proofs.YtacnkcojhlbkoaaDoor.NL
set_option maxRecDepth 100000
set_option exponentiation.threshold 33000

abbrev Sees (A : Option Addr) (n c : Nat) (w : World) (x : Nat) : Prop := Kd.C (Kd.int .u32) w A n (ofN x) ∧ n ≤ c
theorem rbit_of {x s : Nat} {A : Option Addr} {n c : Nat} (w : World) (hs : s ≤ 1000) (h : Kd.C (Kd.int .u32) w A n (ofN x)) (hc : n ≤ c) {z : Int} (hz : z = ((x / 2 ^ s % 2 : Nat) : Int)) :
    Calls Tryd.prog 55 #[.slice A n c, .int .i64 (s : Nat)] w fun e w'' => e = .returned (.int .u64 z) ∧ Below w.heap.size w w'' := by
  subst hz
  obtain rfl := len_ofN h
  refine sorobanref01_Bit.calls A c (ofN x) (s : Nat) _ w h hc ?_
  unfold sorobanref01_Bit.f
  rw [u32L_ofN, decide_eq_true ⟨by omega, by omega⟩, val_ofN, Int.toNat_natCast]; rfl
theorem rlow_of {x s : Nat} {A : Option Addr} {n c : Nat} (w : World) (hx : x < W128) (hs : s ≤ 1000) (h : Kd.C (Kd.int .u32) w A n (ofN x)) (hc : n ≤ c) :
    Calls Tryd.prog 56 #[.slice A n c, .int .i64 (s : Nat)] w (NewRow w (ofN (x % 2 ^ s))) := by
  obtain rfl := len_ofN h
  have := ofN_len hx
  have h2 := rlow_any (s := s) w h hc (u32L_ofN x) (by omega) hs
  rwa [val_ofN] at h2
theorem rshr_of {x s : Nat} {A : Option Addr} {n c : Nat} (w : World) (hx : x < W128) (hs : s ≤ 1000) (h : Kd.C (Kd.int .u32) w A n (ofN x)) (hc : n ≤ c) :
    Calls Tryd.prog 58 #[.slice A n c, .int .i64 (s : Nat)] w (Gives (x / 2 ^ s) w) := by
  obtain rfl := len_ofN h
  have := ofN_len hx
  have h2 := rshr_gives (s := s) w h hc (u32L_ofN x) (by omega) (by omega)
  rwa [val_ofN] at h2
/-- Numbers of the parts. -/
theorem dec_nums {m : Int} (hf : isFm m = true) : IntKind.i64.wrap (fmD m - 1) = (oneN m : Nat) ∧ IntKind.i64.wrap (((topN m : Nat) : Int) - fieldW m) = (frontN m : Nat) ∧ 0 ≤ fieldW m ∧ wrap64 (wrap64 (2 ^ min (fieldW m).toNat 64) - 1) = (lastN m : Nat) ∧
    oneN m ≤ topN m ∧ frontN m ≤ topN m ∧ oneN m ≤ 112 ∧ IntKind.i64.wrap (fmD m - 2) = ((fmD m - 2).toNat : Nat) ∧ (fmD m - 2).toNat + 1 = oneN m ∧ lastN m ≤ 32767 ∧ 30 ≤ lastN m ∧ -100000 ≤ fmL m ∧ fmL m ≤ 0 := by
  rcases fm_cases hf with rfl | rfl | rfl | rfl | rfl <;> decide +kernel
theorem dec_quiet {R d o : Nat} (hd : d + 1 = o) (hR : R < 2 ^ o) : (R / 2 ^ d % 2 = 1 ∧ R % 2 ^ d ≠ R) ∨ (R / 2 ^ d % 2 = 0 ∧ R % 2 ^ d = R) := by
  subst hd
  rw [Nat.pow_succ] at hR
  by_cases h : R < 2 ^ d
  · exact .inr ⟨by rw [Nat.div_eq_of_lt h], Nat.mod_eq_of_lt h⟩
  · refine .inl ⟨?_, ?_⟩
    · have h1 : 1 ≤ R / 2 ^ d := (Nat.le_div_iff_mul_le (Nat.two_pow_pos d)).2 (by omega)
      have h2 : R / 2 ^ d < 2 := Nat.div_lt_of_lt_mul hR
      omega
    · have := Nat.mod_lt R (Nat.two_pow_pos d)
      omega
theorem exp_of {L : Int} {q : Nat} (hq : q ≠ 0) (hq2 : q ≤ 32767) (hL : -100000 ≤ L) (hL2 : L ≤ 0) : IntKind.i64.wrap ((q : Int) - 1) = (q : Int) - 1 ∧ wrap64 (L + max 0 ((q : Int) - 1)) = L + q - 1 := by
  constructor
  · rw [IntKind.wrap_i64]; omega
  · unfold wrap64; omega
theorem bit63 (N : Nat) : N % 2 ^ topN 4 / 2 ^ oneN 4 % 2 = N / 2 ^ oneN 4 % 2 := by
  have t : (2 : Nat) ^ topN 4 = 604462909807314587353088 := by decide +kernel
  have o : (2 : Nat) ^ oneN 4 = 9223372036854775808 := by decide +kernel
  rw [t, o]; omega
theorem exp_zero {L : Int} (hL : -100000 ≤ L) (hL2 : L ≤ 0) : wrap64 (L + max 0 (-1)) = L := by
  unfold wrap64; omega
set_option maxHeartbeats 4000000 in
theorem rdecode_any {m hi lo : Int} (w : World) (hf : isFm m = true) (h1 : u64B hi = true) (h2 : u64B lo = true) (hN : rawN hi lo < 2 ^ (topN m + 1)) :
    Calls Tryd.prog 20 #[.int .i64 m, .agg #[.int .u64 hi, .int .u64 lo]] w (RetD m (decN m (rawN hi lo)).1 (decNeg m (rawN hi lo)) (ofN (decN m (rawN hi lo)).2.1) (decN m (rawN hi lo)).2.2 w) := by
  have HN := Lib.hid fun w' => rnat_gives hi lo w' h1 h2
  have hN2 := raw_lt h1 h2
  generalize rawN hi lo = N at *
  obtain ⟨hD1, hK, hfi, hT, o1, o2, o3, hD2, o4, o5, o6, o7, o8⟩ := dec_nums hf
  obtain ⟨-, hW1, o9⟩ := fmW_top hf
  have HF := Lib.hid fun w' => rformat hf w'
  have HFi := Lib.hid fun w' => rfield m w'
  have hM2 : N % 2 ^ topN m < W128 := Nat.lt_of_le_of_lt (Nat.mod_le _ _) hN2
  have eF : N % 2 ^ topN m / 2 ^ frontN m = decF m N := by
    unfold decF
    rw [show 2 ^ topN m = 2 ^ frontN m * 2 ^ (topN m - frontN m) by rw [← Nat.pow_add]; congr 1; omega, Nat.mod_mul_right_div_self]
  have eR : N % 2 ^ topN m % 2 ^ oneN m = decR m N := by
    unfold decR
    exact Nat.mod_mod_of_dvd _ (Nat.pow_dvd_pow 2 o1)
  have hs : ((((N / 2 ^ topN m % 2 : Nat) : Int)) == 1) = decNeg m N := by
    have : N / 2 ^ topN m < 2 := Nat.div_lt_of_lt_mul (by rw [Nat.pow_succ] at hN; exact hN)
    unfold decNeg
    rw [Nat.mod_eq_of_lt this, Bool.eq_iff_iff, beq_iff_eq, beq_iff_eq]; omega
  have HB := Lib.hid fun A n c w' (h : Kd.C (Kd.int .u32) w' A n (ofN N)) (hc : n ≤ c) => rbit_of (s := topN m) w' (by omega) h hc rfl
  have HL := Lib.hid fun A n c w' (h : Kd.C (Kd.int .u32) w' A n (ofN N)) (hc : n ≤ c) => (rlow_of (s := topN m) w' hN2 (by omega) h hc).mono fun _ _ h => new_gives h
  have HL2 : Hid (∀ A n c w', Kd.C (Kd.int .u32) w' A n (ofN (N % 2 ^ topN m)) → n ≤ c → Calls Tryd.prog 56 #[.slice A n c, .int .i64 (oneN m : Nat)] w' (NewRow w' (ofN (decR m N)))) := Lib.hid fun A n c w' h hc => by
    rw [← eR]; exact rlow_of (s := oneN m) w' hM2 (by omega) h hc
  have HSh : Hid (∀ A n c w', Kd.C (Kd.int .u32) w' A n (ofN (N % 2 ^ topN m)) → n ≤ c → Calls Tryd.prog 58 #[.slice A n c, .int .i64 (frontN m : Nat)] w' (Gives (decF m N) w')) := Lib.hid fun A n c w' h hc => by
    rw [← eF]; exact rshr_of (s := frontN m) w' hM2 (by omega) h hc
  have hFl := decF_le hf N
  have hRl := decR_lt m N
  have HNu : ∀ z : Int, z = ((decF m N : Nat) : Int) → Hid (∀ A n c w', Kd.C (Kd.int .u32) w' A n (ofN (decF m N)) → n ≤ c → Calls Tryd.prog 57 #[.slice A n c] w' fun e w'' => e = .returned (.int .i64 z) ∧ Below w'.heap.size w' w'') := fun z hz => Lib.hid fun A n c w' h hc => by
    subst hz; exact rnumber_any w' (by omega) h
  have HBM : ∀ (s : Nat) (z : Int), s ≤ 1000 → z = ((N % 2 ^ topN m / 2 ^ s % 2 : Nat) : Int) → Hid (∀ A n c w', Kd.C (Kd.int .u32) w' A n (ofN (N % 2 ^ topN m)) → n ≤ c → Calls Tryd.prog 55 #[.slice A n c, .int .i64 (s : Nat)] w' fun e w'' => e = .returned (.int .u64 z) ∧ Below w'.heap.size w' w'') := fun s z hs hz => Lib.hid fun A n c w' h hc => rbit_of w' hs h hc hz
  have HBq : ∀ (z : Int), z = ((decR m N / 2 ^ (fmD m - 2).toNat % 2 : Nat) : Int) → Hid (∀ A n c w', Kd.C (Kd.int .u32) w' A n (ofN (decR m N)) → n ≤ c → Calls Tryd.prog 55 #[.slice A n c, .int .i64 ((fmD m - 2).toNat : Nat)] w' fun e w'' => e = .returned (.int .u64 z) ∧ Below w'.heap.size w' w'') := fun z hz => Lib.hid fun A n c w' h hc => rbit_of w' (by omega) h hc hz
  have hR2 : decR m N < W128 := Nat.lt_of_le_of_lt (Nat.mod_le _ _) hN2
  have HL3 : Hid (∀ A n c w', Kd.C (Kd.int .u32) w' A n (ofN (decR m N)) → n ≤ c → Calls Tryd.prog 56 #[.slice A n c, .int .i64 ((fmD m - 2).toNat : Nat)] w' (NewRow w' (ofN (decR m N % 2 ^ (fmD m - 2).toNat)))) := Lib.hid fun A n c w' h hc => rlow_of w' hR2 (by omega) h hc
  have HP := Lib.hid fun w' => rpower (s := oneN m) w' (by omega)
  have HA : Hid (∀ A n c A' n' c' w', Kd.C (Kd.int .u32) w' A n (ofN (decR m N)) → n ≤ c → Kd.C (Kd.int .u32) w' A' n' (ofN (2 ^ oneN m)) → n' ≤ c' → Calls Tryd.prog 50 #[.slice A n c, .slice A' n' c'] w' (NewRow w' (ofN (decR m N + 2 ^ oneN m)))) := Lib.hid fun A n c A' n' c' w' h hc h' hc' =>
    radd_new w' h hc h' hc' (Nat.lt_of_lt_of_le hRl (Nat.pow_le_pow_right (by decide) (by omega))) (Nat.pow_lt_pow_right (by decide) (by omega))
  have tn : decR m N ≠ 0 → ((((ofN (decR m N)).length : Nat) : Int) == 0) = false := fun h => by
    have : (ofN (decR m N)).length ≠ 0 := fun h2 => h (ofN_nil.1 (List.eq_nil_of_length_eq_zero h2))
    simpa using this
  have tl : ∀ b, b = decide (decF m N ≠ lastN m) → decide (((decF m N : Nat) : Int) < wrap64 (wrap64 (2 ^ min (fieldW m).toNat 64) - 1)) = b := fun b hb => by
    rw [hT, hb, decide_eq_decide]; omega
  have hq := dec_quiet o4 hRl
  have tq : decF m N ≠ 0 → (((decF m N : Nat) : Int) == 0) = false := fun h => by simpa using h
  have tg : decF m N ≠ 0 → decide (((decF m N : Nat) : Int) > 0) = true := fun h => by simp; omega
  have hx := fun h => exp_of (L := fmL m) (q := decF m N) h (by omega) o7 o8
  have hn : ∀ v, decN m N = v → Calls Tryd.prog 20 #[.int .i64 m, .agg #[.int .u64 hi, .int .u64 lo]] w (RetD m v.1 (decNeg m N) (ofN v.2.1) v.2.2 w) → Calls Tryd.prog 20 #[.int .i64 m, .agg #[.int .u64 hi, .int .u64 lo]] w (RetD m (decN m N).1 (decNeg m N) (ofN (decN m N).2.1) (decN m N).2.2 w) := by
    intro v hv h; rw [hv]; exact h
  clear hN2 hM2 hR2 hN h1 h2
  have ed : decN m N = decT (m == 4) (decOne m N) (decF m N) (lastN m) (decR m N) (fmD m - 2).toNat (oneN m) (fmL m) := rfl
  have eo : decOne m N = ((m == 4) && (N % 2 ^ topN m / 2 ^ oneN m % 2 == 1)) := by
    unfold decOne
    by_cases h4 : m = 4
    · subst h4
      rw [bit63]
    · rw [show (m == 4) = false by simpa using h4, Bool.false_and, Bool.false_and]
  rw [eo] at ed
  have HBo := HBM (oneN m)
  have hwh : N % 2 ^ topN m / 2 ^ oneN m % 2 < 2 := Nat.mod_lt _ (by decide)
  generalize N % 2 ^ topN m / 2 ^ oneN m % 2 = wh at *
  clear eo eF eR HBM
  generalize N % 2 ^ topN m = M at *
  unfold decT at ed
  by_cases c4 : m = 4
  · subst c4
    have o : ((oneN 4 : Nat) : Int) = 63 := by decide
    have b4 : ((4 : Int) == 4) = true := by decide
    rw [b4, Bool.true_and] at ed
    by_cases hw : wh = 1
    · subst hw
      have HBw := HBo 1 (by decide) rfl
      rw [o] at HBw
      rw [if_neg (by simp)] at ed
      by_cases h0 : decF 4 N = 0
      · rw [if_pos ⟨rfl, rfl, h0⟩] at ed
        have tl0 := tl true (by rw [h0]; symm; rw [decide_eq_true_eq]; omega)
        rw [h0] at tl0
        refine hn _ ed ?_
        exact rd_C0f w HF HN hW1 hD1 hK HB hs HL HL2 HFi HSh (HNu 0 (by rw [h0]; rfl)) HBw hfi tl0 HP HA (exp_zero o7 o8)
      · rw [if_neg (by rintro ⟨-, -, h⟩; exact h0 h)] at ed
        by_cases hF : decF 4 N = lastN 4
        · rw [if_neg (by simpa using hF)] at ed
          by_cases hR : decR 4 N = 0
          · rw [if_pos hR] at ed
            refine hn _ ed ?_
            have HL2' := HL2
            rw [hR, ofN_zero] at HL2'
            simp only [ofN_zero]
            exact rd_Df w HF HN hW1 hD1 hK HB hs HL HL2' HFi HSh (HNu _ rfl) HBw (tq h0) (tg h0) hfi (tl false (by simp [hF]))
          · rw [if_neg hR] at ed
            rcases hq with ⟨hq1, hq2⟩ | ⟨hq1, hq2⟩
            · rw [if_pos hq2] at ed
              refine hn _ ed ?_
              exact rd_Ef w HF HN hW1 hD1 hK HB hs HL HL2 HFi HSh (HNu _ rfl) HBw (tq h0) (tg h0) hfi (tl false (by simp [hF])) (tn hR) hD2 (HBq 1 (by rw [hq1]; rfl)) HL3
            · rw [if_neg (by simpa using hq2), hq2] at ed
              refine hn _ ed ?_
              exact rd_Ff w HF HN hW1 hD1 hK HB hs HL HL2 HFi HSh (HNu _ rfl) HBw (tq h0) (tg h0) hfi (tl false (by simp [hF])) (tn hR) hD2 (HBq 0 (by rw [hq1]; rfl))
        · rw [if_pos hF, if_neg h0, if_neg h0] at ed
          refine hn _ ed ?_
          exact rd_Cf w HF HN hW1 hD1 hK HB hs HL HL2 HFi HSh (HNu _ rfl) HBw (tq h0) (tg h0) hfi (tl true (by simp [hF])) HP HA (hx h0).1 (hx h0).2
    · obtain rfl : wh = 0 := by omega
      have HBw := HBo 0 (by decide) rfl
      rw [o] at HBw
      have hb : ((0 : Nat) == 1) = false := by decide
      rw [hb] at ed
      by_cases h0 : decF 4 N = 0
      · rw [if_neg (fun h => h.2.2 h0), if_neg (by simp), if_pos (by omega), if_pos h0, if_pos h0] at ed
        refine hn _ ed ?_
        exact rd_Af w HF HN hW1 hD1 hK HB hs HL HL2 HFi HSh (HNu 0 (by rw [h0]; rfl)) HBw
      · rw [if_pos ⟨rfl, rfl, h0⟩] at ed
        refine hn _ ed ?_
        have e1 : ofN 1 = [1] := by decide +kernel
        simp only [e1]
        exact rd_Bf w HF HN hW1 hD1 hK HB hs HL HL2 HFi HSh (HNu _ rfl) HBw (tq h0) (tg h0)
  · have b4 : (m == 4) = false := by simpa using c4
    have b5 : (m != 4) = true := by simpa using c4
    rw [b4, Bool.false_and, if_neg (by simp), if_neg (by simp)] at ed
    by_cases h0 : decF m N = 0
    · rw [if_pos (by omega), if_pos h0, if_pos h0] at ed
      refine hn _ ed ?_
      exact rd_An w HF HN hW1 hD1 hK HB hs HL HL2 HFi HSh (HNu 0 (by rw [h0]; rfl)) b4 b5
    · by_cases hF : decF m N = lastN m
      · rw [if_neg (by simpa using hF)] at ed
        by_cases hR : decR m N = 0
        · rw [if_pos hR] at ed
          refine hn _ ed ?_
          have HL2' := HL2
          rw [hR, ofN_zero] at HL2'
          simp only [ofN_zero]
          exact rd_Dn w HF HN hW1 hD1 hK HB hs HL HL2' HFi HSh (HNu _ rfl) b4 b5 (tq h0) (tg h0) hfi (tl false (by simp [hF]))
        · rw [if_neg hR] at ed
          rcases hq with ⟨hq1, hq2⟩ | ⟨hq1, hq2⟩
          · rw [if_pos hq2] at ed
            refine hn _ ed ?_
            exact rd_En w HF HN hW1 hD1 hK HB hs HL HL2 HFi HSh (HNu _ rfl) b4 b5 (tq h0) (tg h0) hfi (tl false (by simp [hF])) (tn hR) hD2 (HBq 1 (by rw [hq1]; rfl)) HL3
          · rw [if_neg (by simpa using hq2), hq2] at ed
            refine hn _ ed ?_
            exact rd_Fn w HF HN hW1 hD1 hK HB hs HL HL2 HFi HSh (HNu _ rfl) b4 b5 (tq h0) (tg h0) hfi (tl false (by simp [hF])) (tn hR) hD2 (HBq 0 (by rw [hq1]; rfl))
      · rw [if_pos hF, if_neg h0, if_neg h0] at ed
        refine hn _ ed ?_
        exact rd_Cn w HF HN hW1 hD1 hK HB hs HL HL2 HFi HSh (HNu _ rfl) b4 b5 (tq h0) (tg h0) hfi (tl true (by simp [hF])) HP HA (hx h0).1 (hx h0).2
end Go.Proofs.YtacnkcojhlbkoaaDoor

namespace Go.Proofs.YtacnkcojhlbkoaaDoor.XHalf
open Go.RowKit Go.Proofs.YtacnkcojhlbkoaaDoorW.PrintWords Go.Proofs.YtacnkcojhlbkoaaDoorW.PrintLast Go.Proofs.YtacnkcojhlbkoaaDoorW.PrintMore
attribute [local go_sem] max2_int min2_int max_two min_two max_three min_three max_four min_four   -- for this text's walks alone
set_option linter.unusedVariables false
set_option linter.unusedSimpArgs false

def errW : Option Int → Value
  | none => .nilIface
  | some c => .iface 0 (.int .i64 c)
theorem errW_none : errW none = .nilIface := rfl
theorem errW_some (c : Int) : errW (some c) = .iface 0 (.int .i64 c) := rfl

-- the values' own types

end Go.Proofs.YtacnkcojhlbkoaaDoor.XHalf
