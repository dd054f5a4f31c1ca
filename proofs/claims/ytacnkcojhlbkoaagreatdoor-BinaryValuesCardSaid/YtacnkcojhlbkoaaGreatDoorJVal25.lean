/- binary: Greatest: what it returns. binary: Least, LeastNormal, Epsilon: their walks. The specification's place: its walk in two cases. The specification's place, in two cases; its Format, Power, Greatest, IsFormat and Zeros in the form of externs. Written by this session's own program (wip/tools/xprint.sh) for the law Pl: what the law's functions compute, and that the machine does so, given the contracts of the program's functions. -/
import Derived.Test.YtacnkcojhlbkoaaGreatDoorJVal24
import Derived.Test.YtacnkcojhlbkoaaGreatDoorJVal9
import Derived.Test.YtacnkcojhlbkoaaGreatDoorJVal10
import Derived.Test.YtacnkcojhlbkoaaGreatDoorJVal22
import Derived.Test.YtacnkcojhlbkoaaGreatDoorJVal18
import Derived.Test.YtacnkcojhlbkoaaGreatDoorProg
import Derived.Below
import Derived.Deep.Draws
import Derived.Deep.AppendLies
import Derived.Maps.AppendAt
import Derived.OwnWalk
import Derived.Laws.BytesArg
import Derived.Laws.MakeOwn
import Derived.Laws.OwnMore
import Derived.Deep.OwnRows
import Derived.Tactics
import Derived.Lib.ConvBytes
import Derived.Laws.Slices
import Derived.WalkKit
import Derived.KernelRfl
import Derived.RowKit3
import Derived.Deep.LoopGhost
import Derived.Deep.QuietTactic
import Derived.BigQuiet
import Derived.WideLaws
import Derived.Deep.DeepCutAuto
import Derived.Deep.CutBlock
import Derived.Deep.RegionHeld3
import Derived.Laws.Rows
import Derived.Lib.AppendStr
import Derived.ArgAppend
import Derived.Laws.IdiomCopy
import Derived.OrdersHeld
import Derived.Laws.BitsLemmas
import Derived.RowKit
import Derived.Test.YtacnkcojhlbkoaaGreatDoorJVal20
import Derived.Test.YtacnkcojhlbkoaaGreatDoorJVal17
import Derived.Test.YtacnkcojhlbkoaaGreatDoorJVal0
import Derived.Test.YtacnkcojhlbkoaaGreatDoorJVal1
import Derived.Test.YtacnkcojhlbkoaaGreatDoorJVal2
set_option linter.unusedSimpArgs false
set_option linter.unusedVariables false
set_option linter.unnecessarySimpa false
namespace Go.Proofs.YtacnkcojhlbkoaaGreatDoor
open Go.RowKit Go.Proofs.YtacnkcojhlbkoaaGreatDoorW.PrintWords Go.Proofs.YtacnkcojhlbkoaaGreatDoorW.PrintLast Go.Proofs.YtacnkcojhlbkoaaGreatDoorW.PrintMore Go.Proofs.YtacnkcojhlbkoaaGreatDoor.NL
set_option maxRecDepth 100000
set_option exponentiation.threshold 130

end Go.Proofs.YtacnkcojhlbkoaaGreatDoor

set_option linter.unusedSimpArgs false
set_option linter.unusedVariables false
set_option linter.unnecessarySimpa false
namespace Go.Proofs.YtacnkcojhlbkoaaGreatDoor
open Go.RowKit Go.Proofs.YtacnkcojhlbkoaaGreatDoorW.PrintWords Go.Proofs.YtacnkcojhlbkoaaGreatDoorW.PrintLast Go.Proofs.YtacnkcojhlbkoaaGreatDoorW.PrintMore Go.Proofs.YtacnkcojhlbkoaaGreatDoor.NL
set_option maxRecDepth 100000

theorem oneR (W : World) : Kd.R (Kd.int .u32) 40 (W.alloc (.cells #[.int .u32 1] 40)) W.heap.size (fun _ => True) (.slice (some ⟨W.heap.size, 0, none⟩) 1 1) [1] := R_fresh W W.heap.size rfl [1] #[.int .u32 1] rfl 1 rfl (Nat.le_refl _) (by simp)
end Go.Proofs.YtacnkcojhlbkoaaGreatDoor

set_option linter.unusedSimpArgs false
set_option linter.unusedVariables false
set_option linter.unnecessarySimpa false
namespace Go.Proofs.YtacnkcojhlbkoaaGreatDoor
open Go.RowKit Go.Proofs.YtacnkcojhlbkoaaGreatDoorW.PrintWords Go.Proofs.YtacnkcojhlbkoaaGreatDoorW.PrintLast Go.Proofs.YtacnkcojhlbkoaaGreatDoorW.PrintMore Go.Proofs.YtacnkcojhlbkoaaGreatDoor.NL
set_option maxRecDepth 100000
set_option exponentiation.threshold 33000

set_option maxHeartbeats 4000000 in
theorem rpl_fin {f cl ex D E L H W D1 : Int} {ng : Bool} {A : Option Addr} {n c x K P M : Nat} {R : List Int} (w : World) (hA : Kd.C (Kd.int .u32) w A n (ofN x)) (hc : n ≤ c) (hcl : (cl == 2) = false) (hD1 : IntKind.i64.wrap (D - 1) = D1) (hk : IntKind.u64.wrap (IntKind.i64.wrap (ex - L)) = (K : Nat))
    (HF : Hid (∀ w', Calls Tryz.prog 17 #[.int .i64 f] w' fun e w'' => e = .returned (.agg #[.int .i64 D, .int .i64 E, .int .i64 L, .int .i64 H, .int .i64 W]) ∧ Below w'.heap.size w' w''))
    (HO : Hid (∀ w', Calls Tryz.prog 71 #[.int .u64 (K : Nat)] w' (Gives K w')))
    (HP : Hid (∀ w', Calls Tryz.prog 56 #[.int .i64 D1] w' (Gives P w')))
    (HM : Hid (∀ A n c A' n' c' w', Kd.C (Kd.int .u32) w' A n (ofN K) → n ≤ c → Kd.C (Kd.int .u32) w' A' n' (ofN P) → n' ≤ c' → Calls Tryz.prog 70 #[.slice A n c, .slice A' n' c'] w' (Gives M w')))
    (HA : Hid (∀ A' n' c' w', Kd.C (Kd.int .u32) w' A' n' (ofN M) → n' ≤ c' → Kd.C (Kd.int .u32) w' A n (ofN x) → n ≤ c → Calls Tryz.prog 98 #[.slice A' n' c', .slice A n c] w' (NewRow w' R))) :
    Calls Tryz.prog 68 #[dV f cl ng A n c ex] w (NewRow w R) := by
  have HC0 := Lib.hid hA
  have hc0 := Lib.hid hc
  clear hA hc
  go_enter Tryz.func68, Tryz.ntmps68
  go_upto_region 3 with (first | fail | (go_at_call 17; (with_reducible refine (HF.out _).mono ?_); rintro e w1 ⟨rfl, b1⟩; obtain ⟨hc1, hf1⟩ := bcell b1; have hz1 := below_size b1; (try simp at hz1); have zz1_0 : w.heap.size < w1.heap.size := (by omega)))
  go_cut [1, 3] (fun v1 v3 wx => ∃ p : Nat, v1 = .pointer (some ⟨w.heap.size, 0, none⟩) ∧ v3 = .pointer (some ⟨p, 0, none⟩) ∧ BlkIs wx w.heap.size 25 (· = #[.int .i64 f, .int .i64 cl, .bool ng, .slice A n c, .int .i64 ex]) ∧ BlkIs wx p 33 (· = #[.int .i64 D, .int .i64 E, .int .i64 L, .int .i64 H, .int .i64 W]) ∧ Below w.heap.size w wx)
  case first =>
    go_wp2_with (first | fail | (go_at_call 17; (with_reducible refine (HF.out _).mono ?_); rintro e w1 ⟨rfl, b1⟩; obtain ⟨hc1, hf1⟩ := bcell b1; have hz1 := below_size b1; (try simp at hz1); have zz1_0 : w.heap.size < w1.heap.size := (by omega)))
    go_meet
    exact ⟨_, rfl, rfl, blk0, blk0, bel⟩
  case rest =>
    skip
    obtain ⟨p, rfl, rfl, HB1, HB3, hbw⟩ := hcut
    obtain ⟨cs1, hbk1, rfl⟩ := HB1
    obtain ⟨cs3, hbk3, rfl⟩ := HB3
    have r0 : wc.cell? ⟨w.heap.size, 0, none⟩ = some (.int .i64 f) := by simpa using blk_cell hbk1 0
    have r1 : wc.cell? ⟨w.heap.size, 1, none⟩ = some (.int .i64 cl) := by simpa using blk_cell hbk1 1
    have r2 : wc.cell? ⟨w.heap.size, 2, none⟩ = some (.bool ng) := by simpa using blk_cell hbk1 2
    have r3 : wc.cell? ⟨w.heap.size, 3, none⟩ = some (.slice A n c) := by simpa using blk_cell hbk1 3
    have r4 : wc.cell? ⟨w.heap.size, 4, none⟩ = some (.int .i64 ex) := by simpa using blk_cell hbk1 4
    have rz : w.heap.size < wc.heap.size := blk_lt hbk1
    have s0 : wc.cell? ⟨p, 0, none⟩ = some (.int .i64 D) := by simpa using blk_cell hbk3 0
    have s1 : wc.cell? ⟨p, 1, none⟩ = some (.int .i64 E) := by simpa using blk_cell hbk3 1
    have s2 : wc.cell? ⟨p, 2, none⟩ = some (.int .i64 L) := by simpa using blk_cell hbk3 2
    have s3 : wc.cell? ⟨p, 3, none⟩ = some (.int .i64 H) := by simpa using blk_cell hbk3 3
    have s4 : wc.cell? ⟨p, 4, none⟩ = some (.int .i64 W) := by simpa using blk_cell hbk3 4
    have sz : p < wc.heap.size := blk_lt hbk3
    clear hbk1 hbk3
    go_wp2_with fail
    go_region_held3 (fun w' => Below (wc).heap.size (wc) w' ∧ ∀ b o, b < (wc).heap.size → w'.cell? ⟨b, o, none⟩ = (wc).cell? ⟨b, o, none⟩) (first | ((try go_split_ands); refine below_S ?_; ((repeat (first | with_reducible assumption | with_reducible exact Below.refl _ _ | with_reducible refine below_alloc ?_ _ | with_reducible refine pw_below_drewN ?_ _ | with_reducible refine below_drew1 ?_ | ((with_reducible refine below_set ?_ ?hle); (case hle => first | (simp; done) | omega | (simp; omega))) | with_reducible refine below_step ?_ (by with_reducible assumption))); done))) (first | (go_at_call 71; (try rw [hk]); (with_reducible refine (HO.out _).mono ?_); rintro e w10 ⟨A10, n10, c10, rfl, HV10, b10⟩; obtain ⟨hc10, hf10⟩ := bcell b10; (try simp only [dr_size, dr_cell] at hc10); (try simp only [dr_size, dr_frozen] at hf10); have hz10 := below_size b10; (try simp at hz10); have zz10_0 : w.heap.size < w10.heap.size := (by omega); have zz10_1 : p < w10.heap.size := (by omega)) | (go_at_call 56; (try rw [hD1]); (with_reducible refine (HP.out _).mono ?_); rintro e w11 ⟨A11, n11, c11, rfl, HV11, b11⟩; obtain ⟨hc11, hf11⟩ := bcell b11; (try simp only [dr_size, dr_cell] at hc11); (try simp only [dr_size, dr_frozen] at hf11); have hz11 := below_size b11; (try simp at hz11); have zz11_0 : w.heap.size < w11.heap.size := (by omega); have zz11_1 : p < w11.heap.size := (by omega)) | (go_at_call 70; (with_reducible refine (HM.out _ _ _ _ _ _ _ (Kd.C_below HV10.out.2 bel) HV10.out.1 (Kd.C_below HV11.out.2 bel) HV11.out.1).mono ?_); rintro e w12 ⟨A12, n12, c12, rfl, HV12, b12⟩; obtain ⟨hc12, hf12⟩ := bcell b12; (try simp only [dr_size, dr_cell] at hc12); (try simp only [dr_size, dr_frozen] at hf12); have hz12 := below_size b12; (try simp at hz12); have zz12_0 : w.heap.size < w12.heap.size := (by omega); have zz12_1 : p < w12.heap.size := (by omega)) | (go_at_call 98; (with_reducible refine (HA.out _ _ _ _ (Kd.C_below HV12.out.2 bel) HV12.out.1 (Kd.C_below HC0.out bel) hc0.out).mono ?_); rintro e w13 ⟨v13, rfl, hv13, b13⟩; have HV13 := Lib.hid hv13; clear hv13; obtain ⟨hc13, hf13⟩ := bcell b13; (try simp only [dr_size, dr_cell] at hc13); (try simp only [dr_size, dr_frozen] at hf13); have hz13 := below_size b13; (try simp at hz13); have zz13_0 : w.heap.size < w13.heap.size := (by omega); have zz13_1 : p < w13.heap.size := (by omega)))
    all_goals
      go_wp2_with fail
      go_ret
      exact ⟨_, rfl, Kd.R_lower HV13.out (by first | omega | (simp; omega)), bel⟩
set_option maxHeartbeats 4000000 in
theorem rpl_inf {f ex H : Int} {ng : Bool} {A : Option Addr} {n c P : Nat} {xs R : List Int} (w : World)
    (HG : Hid (∀ w', Calls Tryz.prog 20 #[.int .i64 f] w' (DatumP f 1 false xs H w')))
    (HPl : Hid (∀ A c w', Kd.C (Kd.int .u32) w' A xs.length xs → xs.length ≤ c → Calls Tryz.prog 68 #[dV f 1 false A xs.length c H] w' (Gives P w')))
    (HA : Hid (∀ A n c A' w', Kd.C (Kd.int .u32) w' A n (ofN P) → n ≤ c → Kd.C (Kd.int .u32) w' A' 1 [1] → Calls Tryz.prog 98 #[.slice A n c, .slice A' 1 1] w' (NewRow w' R))) :
    Calls Tryz.prog 68 #[dV f 2 ng A n c ex] w (NewRow w R) := by
  unfold dV at HPl
  go_enter Tryz.func68, Tryz.ntmps68
  go_wp2_with (first | fail | (go_at_call 20; (with_reducible refine (HG.out _).mono ?_); rintro e w1 ⟨v1, rfl, hv1, b1⟩; obtain ⟨A1, c1, rfl⟩ := Kd.R_slice hv1; have HC1 := Lib.hid (R_C hv1); clear hv1; obtain ⟨hc1, hf1⟩ := bcell b1; have hz1 := below_size b1; (try simp at hz1); have zz1_0 : w.heap.size < w1.heap.size := (by omega)) | (go_at_call 68; (with_reducible refine (HPl.out _ _ _ (Kd.C_below HC1.out.1 bel) HC1.out.2).mono ?_); rintro e w2 ⟨A2, n2, c2, rfl, HV2, b2⟩; obtain ⟨hc2, hf2⟩ := bcell b2; have hz2 := below_size b2; (try simp at hz2); have zz2_0 : w.heap.size < w2.heap.size := (by omega)) | (go_at_call 98; (with_reducible refine (HA.out _ _ _ _ _ (Kd.C_below HV2.out.2 bel) HV2.out.1 (R_C (oneR _)).1).mono ?_); rintro e w3 ⟨v3, rfl, hv3, b3⟩; have HV3 := Lib.hid hv3; clear hv3; obtain ⟨hc3, hf3⟩ := bcell b3; have hz3 := below_size b3; (try simp at hz3); have zz3_0 : w.heap.size < w3.heap.size := (by omega)))
  all_goals
    go_ret
    exact ⟨_, rfl, Kd.R_lower HV3.out (by first | omega | (simp; omega)), bel⟩
end Go.Proofs.YtacnkcojhlbkoaaGreatDoor

set_option linter.unusedSimpArgs false
set_option linter.unusedVariables false
set_option linter.unnecessarySimpa false
namespace Go.Proofs.YtacnkcojhlbkoaaGreatDoor
open Go.RowKit Go.Proofs.YtacnkcojhlbkoaaGreatDoorW.PrintWords Go.Proofs.YtacnkcojhlbkoaaGreatDoorW.PrintLast Go.Proofs.YtacnkcojhlbkoaaGreatDoorW.PrintMore Go.Proofs.YtacnkcojhlbkoaaGreatDoor.NL
set_option maxRecDepth 100000
set_option exponentiation.threshold 33000

theorem rgreat_any {f : Int} (w : World) (hf : isFm f = true) : Calls Tryz.prog 20 #[.int .i64 f] w (DatumP f 1 false (ofN (2 ^ (oneN f + 1) - 1)) (fmH f) w) := by
  refine XBitz.sorobanref05_Greatest.calls f f 1 false (ofN (2 ^ (oneN f + 1) - 1)) (fmH f) w ?_
  have h : XBitz.sorobanref05_Greatest.f f = some (f, 1, false, ofN (2 ^ (oneN f + 1) - 1), fmH f) := by
    rcases fm_cases hf with rfl | rfl | rfl | rfl | rfl <;> decide +kernel
  exact h
theorem pla_nums {f ex : Int} (hf : isFm f = true) (h1 : fmL f ≤ ex) (h2 : ex ≤ fmH f) : IntKind.i64.wrap (fmD f - 1) = (oneN f : Nat) ∧ IntKind.u64.wrap (IntKind.i64.wrap (ex - fmL f)) = (((ex - fmL f).toNat : Nat) : Int) ∧ oneN f ≤ 112 ∧ (ex - fmL f).toNat ≤ 40000 := by
  obtain ⟨n1, n2, n3, n4, n5⟩ := at_nums hf
  rw [IntKind.wrap_i64, IntKind.wrap_i64, IntKind.wrap_u64] at *
  omega
theorem pl_fin {f ex : Int} {x : Nat} (cl : Int) (h : cl ≠ 2) : placeN f cl x ex = (ex - fmL f).toNat * 2 ^ oneN f + x := by
  unfold placeN; rw [if_neg h, Nat.mul_comm]
theorem rmul_gives {A A' : Option Addr} {n c n' c' x y : Nat} (w : World) (h : Kd.C (Kd.int .u32) w A n (ofN x)) (hc : n ≤ c) (h' : Kd.C (Kd.int .u32) w A' n' (ofN y)) (hc' : n' ≤ c') (hx : x < 2 ^ 1000) (hy : y < 2 ^ 1000) : Calls Tryz.prog 70 #[.slice A n c, .slice A' n' c'] w (Gives (x * y) w) := by
  obtain rfl := len_ofN h
  obtain rfl := len_ofN h'
  have l1 : (ofN x).length ≤ 1024 := small_len hx (by omega)
  have l2 : (ofN y).length ≤ 1024 := small_len hy (by omega)
  refine (sorobanref01_Mul.calls A c (ofN x) A' c' (ofN y) (ofN (x * y)) w h hc h' hc' ?_).mono fun e w' h => new_gives h
  unfold sorobanref01_Mul.f
  rw [u32L_ofN, u32L_ofN, val_ofN, val_ofN, decide_eq_true ⟨by omega, by omega⟩]; rfl
theorem rplace_fin {f cl ex : Int} {ng : Bool} {A : Option Addr} {n c x : Nat} (w : World) (hf : isFm f = true) (hA : Kd.C (Kd.int .u32) w A n (ofN x)) (hc : n ≤ c) (hcl : cl ≠ 2) (h1 : fmL f ≤ ex) (h2 : ex ≤ fmH f) (hx : x < 2 ^ 999) :
    Calls Tryz.prog 68 #[dV f cl ng A n c ex] w (NewRow w (ofN (placeN f cl x ex))) := by
  obtain ⟨n1, n2, n3, n4⟩ := pla_nums hf h1 h2
  rw [pl_fin cl hcl]
  have b1 : (ex - fmL f).toNat < 2 ^ 1000 := Nat.lt_of_le_of_lt n4 (Nat.lt_of_lt_of_le (by decide : 40000 < 2 ^ 16) (pow_le3 (by omega)))
  have b2 : 2 ^ oneN f < 2 ^ 1000 := Nat.pow_lt_pow_right (by decide) (by omega)
  have b3 : (ex - fmL f).toNat * 2 ^ oneN f < 2 ^ 999 := Nat.lt_of_le_of_lt (Nat.mul_le_mul n4 (pow_le3 n3)) (Nat.lt_of_lt_of_le (by decide +kernel : 40000 * 2 ^ 112 < 2 ^ 130) (pow_le3 (by omega)))
  have b4 : (2 : Nat) ^ 999 < 2 ^ 1000 := Nat.pow_lt_pow_right (by decide) (by omega)
  exact rpl_fin (K := (ex - fmL f).toNat) (P := 2 ^ oneN f) (M := (ex - fmL f).toNat * 2 ^ oneN f) w hA hc (by simpa using hcl) n1 n2 (Lib.hid fun w' => rformat hf w')
    (Lib.hid fun w' => rofn w' (by omega)) (Lib.hid fun w' => rpower w' (by omega)) (Lib.hid fun A n c A' n' c' w' g1 g2 g3 g4 => rmul_gives w' g1 g2 g3 g4 b1 b2)
    (Lib.hid fun A' n' c' w' g1 g2 g3 g4 => radd_new w' g1 g2 g3 g4 (by omega) (by omega))
theorem rplace_inf {f ex : Int} {ng : Bool} {A : Option Addr} {n c : Nat} {x : Nat} (w : World) (hf : isFm f = true) :
    Calls Tryz.prog 68 #[dV f 2 ng A n c ex] w (NewRow w (ofN (placeN f 2 x ex))) := by
  have hp : placeN f 2 x ex = placeN f 1 (2 ^ (oneN f + 1) - 1) (fmH f) + 1 := by
    have := Nat.two_pow_pos (oneN f + 1)
    unfold placeN; rw [if_pos rfl, if_neg (by decide)]; omega
  obtain ⟨n1, n2, n3, n4⟩ := pla_nums hf (show fmL f ≤ fmH f by have := fmL_bd f; have := fmH_bd f; omega) (Int.le_refl _)
  have b1 : 2 ^ (oneN f + 1) - 1 < 2 ^ 999 := Nat.lt_of_le_of_lt (Nat.sub_le _ _) (Nat.pow_lt_pow_right (by decide) (by omega))
  have b2 : placeN f 1 (2 ^ (oneN f + 1) - 1) (fmH f) < 2 ^ 1000 := by
    have h := end_lt hf
    have h2 : placeN f 1 (2 ^ (oneN f + 1) - 1) (fmH f) ≤ endN f := by
      unfold placeN endN; rw [if_neg (by decide)]; exact Nat.add_le_add_left (Nat.sub_le _ _) _
    exact Nat.lt_trans (Nat.lt_of_le_of_lt h2 h) (Nat.pow_lt_pow_right (by decide) (by omega))
  rw [hp]
  refine rpl_inf (P := placeN f 1 (2 ^ (oneN f + 1) - 1) (fmH f)) w (Lib.hid fun w' => rgreat_any w' hf) (Lib.hid fun A c w' g1 g2 => (rplace_fin w' hf g1 g2 (by decide) (by have := fmL_bd f; have := fmH_bd f; omega) (Int.le_refl _) b1).mono fun _ _ h => new_gives h)
    (Lib.hid fun A n c A' w' g1 g2 g3 => ?_)
  have e1 : ofN 1 = [1] := by decide +kernel
  exact radd_new w' g1 g2 (y := 1) (by rw [e1]; exact g3) (Nat.le_refl 1) b2 (Nat.lt_of_lt_of_le (by decide : 1 < 2 ^ 1) (pow_le3 (by omega)))
def sorobanref05_place.f (a0_0 a0_1 : Int) (a0_2 : Bool) (l0_3 : List Int) (a0_4 : Int) : Option (List Int) :=
  if isFm a0_0 = true ∧ (a0_1 = 2 ∨ (l0_3 = ofN (val l0_3) ∧ l0_3.length ≤ 31 ∧ fmL a0_0 ≤ a0_4 ∧ a0_4 ≤ fmH a0_0)) then some (ofN (placeN a0_0 a0_1 (val l0_3) a0_4)) else none
theorem val_31 {l : List Int} (h : l = ofN (val l)) (h2 : l.length ≤ 31) : val l < 2 ^ 999 := by
  have l1 : Lim l := by rw [h]; exact lim_ofN _
  exact Nat.lt_of_lt_of_le (lt_blen _) (pow_le3 (Nat.le_trans (blen_small_k l1 h2) (by omega)))
theorem sorobanref05_place.calls (a0_0 a0_1 : Int) (a0_2 : Bool) (A0_3 : Option Addr) (c0_3 : Nat) (l0_3 : List Int) (a0_4 : Int) (r : List Int) (w : World) (hr0_3 : Kd.C (Kd.int .u32) w A0_3 l0_3.length l0_3) (hc0_3 : l0_3.length ≤ c0_3) (h : sorobanref05_place.f a0_0 a0_1 a0_2 l0_3 a0_4 = some r) :
    Calls Tryz.prog 68 #[.agg #[.int .i64 a0_0, .int .i64 a0_1, .bool a0_2, .slice A0_3 l0_3.length c0_3, .int .i64 a0_4]] w fun e w' => ∃ v0_ : Value, e = .returned (v0_) ∧ Kd.R (Kd.int .u32) 40 w' w.heap.size (fun _ => True) v0_ r ∧ Below w.heap.size w w' := by
  unfold sorobanref05_place.f at h
  split at h
  · rename_i hb
    obtain ⟨hf, hb⟩ := hb
    simp only [Option.some.injEq] at h
    subst h
    by_cases h2 : a0_1 = 2
    · subst h2
      exact rplace_inf w hf
    · obtain ⟨g1, g2, g3, g4⟩ := hb.resolve_left h2
      refine rplace_fin (n := l0_3.length) w hf ?_ hc0_3 h2 g3 g4 (val_31 g1 g2)
      rw [← g1]; exact hr0_3
  · cases h
def sorobanref05_Format.f (a0 : Int) : Option (Int × Int × Int × Int × Int) := if isFm a0 then some (fmD a0, fmE a0, fmL a0, fmH a0, fmW a0) else none
theorem sorobanref05_Format.calls (a0 : Int) (r1 r2 r3 r4 r5 : Int) (w : World) (h : sorobanref05_Format.f a0 = some (r1, r2, r3, r4, r5)) :
    Calls Tryz.prog 17 #[.int .i64 a0] w fun e w' => e = .returned (.agg #[.int .i64 r1, .int .i64 r2, .int .i64 r3, .int .i64 r4, .int .i64 r5]) ∧ Below w.heap.size w w' := by
  unfold sorobanref05_Format.f at h
  split at h
  · rename_i hb
    simp only [Option.some.injEq, Prod.mk.injEq] at h
    obtain ⟨rfl, rfl, rfl, rfl, rfl⟩ := h
    exact rformat hb w
  · cases h
def sorobanref05_Greatest.f (a0 : Int) : Option (Int × Int × Bool × List Int × Int) := if isFm a0 then some (a0, 1, false, ofN (2 ^ (oneN a0 + 1) - 1), fmH a0) else none
theorem sorobanref05_Greatest.calls (a0 : Int) (r1 r2 : Int) (r3 : Bool) (r4 : List Int) (r5 : Int) (w : World) (h : sorobanref05_Greatest.f a0 = some (r1, r2, r3, r4, r5)) :
    Calls Tryz.prog 20 #[.int .i64 a0] w fun e w' => ∃ v3_ : Value, e = .returned (.agg #[.int .i64 r1, .int .i64 r2, .bool r3, v3_, .int .i64 r5]) ∧ Kd.R (Kd.int .u32) 40 w' w.heap.size (fun _ => True) v3_ r4 ∧ Below w.heap.size w w' := by
  unfold sorobanref05_Greatest.f at h
  split at h
  · rename_i hb
    simp only [Option.some.injEq, Prod.mk.injEq] at h
    obtain ⟨rfl, rfl, rfl, rfl, rfl⟩ := h
    exact rgreat_any w hb
  · cases h
def sorobanref05_IsFormat.f (a0 : Int) : Option Bool := some (isFm a0)
theorem sorobanref05_IsFormat.calls (a0 : Int) (r : Bool) (w : World) (h : sorobanref05_IsFormat.f a0 = some r) :
    Calls Tryz.prog 16 #[.int .i64 a0] w fun e w' => e = .returned (.bool r) ∧ Below w.heap.size w w' := by
  unfold sorobanref05_IsFormat.f at h
  simp only [Option.some.injEq] at h
  subst h
  exact risf_any a0 w
def sorobanref05_Power.f (a0 : Int) : Option (List Int) := if 0 ≤ a0 ∧ a0 ≤ 1000 then some (ofN (2 ^ a0.toNat)) else none
theorem sorobanref05_Power.calls (a0 : Int) (r : List Int) (w : World) (h : sorobanref05_Power.f a0 = some r) :
    Calls Tryz.prog 56 #[.int .i64 a0] w fun e w' => ∃ v0_ : Value, e = .returned (v0_) ∧ Kd.R (Kd.int .u32) 40 w' w.heap.size (fun _ => True) v0_ r ∧ Below w.heap.size w w' := by
  unfold sorobanref05_Power.f at h
  split at h
  · rename_i hb
    simp only [Option.some.injEq] at h
    subst h
    refine XBitz.sorobanref05_Power.calls a0 _ w ?_
    have h1 : val [1] = 1 := by decide
    have h2 : u32L [1] = true := by decide
    unfold XBitz.sorobanref05_Power.f sorobanref01_Shl.f
    rw [h1, h2, decide_eq_true ⟨by simp, by simp, by omega, by omega⟩, Nat.one_mul]; rfl
  · cases h
def sorobanref01_Zeros.f (l0 : List Int) : Option Int := if u32L l0 && okN l0 then some ((tz (val l0) : Nat) : Int) else none
theorem sorobanref01_Zeros.calls (A0 : Option Addr) (c0 : Nat) (l0 : List Int) (r : Int) (w : World) (hr0 : Kd.C (Kd.int .u32) w A0 l0.length l0) (hc0 : l0.length ≤ c0) (h : sorobanref01_Zeros.f l0 = some r) :
    Calls Tryz.prog 52 #[.slice A0 l0.length c0] w fun e w' => e = .returned (.int .i64 r) ∧ Below w.heap.size w w' := by
  unfold sorobanref01_Zeros.f at h
  split at h
  · rename_i hb
    simp only [Bool.and_eq_true] at hb
    simp only [Option.some.injEq] at h
    subst h
    obtain ⟨g1, g2⟩ := okN_iff.1 hb.2
    refine (rzeros_any A0 _ c0 l0 w hr0 (u32L_of hb.1) g2 (by omega)).mono ?_
    rintro e w' ⟨rfl, rfl⟩
    exact ⟨rfl, Below.refl _ _⟩
  · cases h
end Go.Proofs.YtacnkcojhlbkoaaGreatDoor

namespace Go.Proofs.YtacnkcojhlbkoaaGreatDoor.XPl
open Go.RowKit Go.Proofs.YtacnkcojhlbkoaaGreatDoorW.PrintWords Go.Proofs.YtacnkcojhlbkoaaGreatDoorW.PrintLast Go.Proofs.YtacnkcojhlbkoaaGreatDoorW.PrintMore
attribute [local go_sem] max2_int min2_int max_two min_two max_three min_three max_four min_four   -- for this text's walks alone
set_option linter.unusedVariables false
set_option linter.unusedSimpArgs false

def errW : Option Int → Value
  | none => .nilIface
  | some c => .iface 0 (.int .i64 c)
theorem errW_none : errW none = .nilIface := rfl
theorem errW_some (c : Int) : errW (some c) = .iface 0 (.int .i64 c) := rfl

-- the values' own types

end Go.Proofs.YtacnkcojhlbkoaaGreatDoor.XPl
