/- binary: Greatest: what it returns. binary: the four named data: what they return for every number of a format. The specification's at, Bit, Zeros. The specification's Make, where there is such a datum. The specification's Trim: a list without zeros at its end. The specification's Trim, in the form that the printed walks ask for. The specification's Shl: a number times a power of 2. Written by this session's own program (wip/tools/xprint.sh) for the law Shl: what the law's functions compute, and that the machine does so, given the contracts of the program's functions. -/
import Derived.Test.YtacnkcojhlbkoaaGreatDoorJFor23
import Derived.Test.YtacnkcojhlbkoaaGreatDoorJFor9
import Derived.Test.YtacnkcojhlbkoaaGreatDoorJFor3
import Derived.Test.YtacnkcojhlbkoaaGreatDoorJFor5
import Derived.Test.YtacnkcojhlbkoaaGreatDoorJFor4
import Derived.Test.YtacnkcojhlbkoaaGreatDoorJFor18
import Derived.Test.YtacnkcojhlbkoaaGreatDoorJFor8
import Derived.Laws.OwnMore
import Derived.Test.YtacnkcojhlbkoaaGreatDoorProg
import Derived.Below
import Derived.Deep.Draws
import Derived.Deep.AppendLies
import Derived.Maps.AppendAt
import Derived.OwnWalk
import Derived.Laws.BytesArg
import Derived.Laws.MakeOwn
import Derived.Deep.OwnRows
import Derived.Tactics
import Derived.Lib.ConvBytes
import Derived.Laws.Slices
import Derived.WalkKit
import Derived.KernelRfl
import Derived.RowKit3
import Derived.Deep.LoopGhost
import Derived.Deep.QuietTactic
import Derived.BigQuiet
import Derived.WideLaws
import Derived.Deep.DeepCutAuto
import Derived.Deep.CutBlock
import Derived.Deep.RegionHeld3
import Derived.Laws.Rows
import Derived.Lib.AppendStr
import Derived.ArgAppend
import Derived.Laws.IdiomCopy
import Derived.OrdersHeld
import Derived.Laws.BitsLemmas
import Derived.RowKit
import Derived.Test.YtacnkcojhlbkoaaGreatDoorJFor0
import Derived.Test.YtacnkcojhlbkoaaGreatDoorJFor1
import Derived.Test.YtacnkcojhlbkoaaGreatDoorJFor2
set_option linter.unusedSimpArgs false
set_option linter.unusedVariables false
set_option linter.unnecessarySimpa false
namespace Go.Proofs.YtacnkcojhlbkoaaGreatDoor
open Go.RowKit Go.Proofs.YtacnkcojhlbkoaaGreatDoorW.PrintWords Go.Proofs.YtacnkcojhlbkoaaGreatDoorW.PrintLast Go.Proofs.YtacnkcojhlbkoaaGreatDoorW.PrintMore Go.Proofs.YtacnkcojhlbkoaaGreatDoor.NL
set_option maxRecDepth 100000
set_option exponentiation.threshold 130

theorem one_C (W : World) : Kd.C (Kd.int .u32) (W.alloc (.cells #[.int .u32 1] 40)) (some ⟨W.heap.size, 0, none⟩) 1 [1] := (R_C (R_fresh W W.heap.size rfl [1] #[.int .u32 1] rfl 1 rfl (Nat.le_refl _) (by simp))).1
def TopP (rs : List Int) (H : Int) (w : World) (e : Ending) (w' : World) : Prop := ∃ v, e = .returned (.tuple #[v, .int .i64 H]) ∧ Kd.R (Kd.int .u32) 40 w' w.heap.size (fun _ => True) v rs ∧ Below w.heap.size w w'
set_option maxHeartbeats 2000000 in
theorem top1 {D E L H W f : Int} {ps rs : List Int} (w : World)
    (HPW : Hid (∀ w', Calls Tryz.prog 50 #[.int .i64 D] w' (NewRow w' ps)))
    (HSB : Hid (∀ A2 c2 A3 w', Kd.C (Kd.int .u32) w' A2 ps.length ps → ps.length ≤ c2 → Kd.C (Kd.int .u32) w' A3 1 [1] → Calls Tryz.prog 49 #[.slice A2 ps.length c2, .slice A3 1 1] w' (NumErr rs 0 w'))) :
    Calls Tryz.prog 48 #[.agg #[.int .i64 D, .int .i64 E, .int .i64 L, .int .i64 H, .int .i64 W, .int .i64 f]] w (TopP rs H w) := by
  go_enter Tryz.func48, Tryz.ntmps48
  go_wp2_with (first | fail | (go_at_call 50; (with_reducible refine (HPW.out _).mono ?_); rintro e w1 ⟨v1, rfl, hv1, b1⟩; obtain ⟨A1, c1, rfl⟩ := Kd.R_slice hv1; have HC1 := Lib.hid (R_C hv1); clear hv1; obtain ⟨hc1, hf1⟩ := bcell b1; have hz1 := below_size b1; (try simp at hz1); have z01 : w.heap.size < w1.heap.size := (by omega)) | (go_at_call 49; (with_reducible refine (HSB.out _ _ _ _ (Kd.C_below HC1.out.1 bel) HC1.out.2 (one_C w1)).mono ?_); rintro e w2 ⟨v2, rfl, hv2, b2⟩; obtain ⟨A2, c2, rfl⟩ := Kd.R_slice hv2; have HV2 := Lib.hid hv2; clear hv2; obtain ⟨hc2, hf2⟩ := bcell b2; have hz2 := below_size b2; (try simp at hz2); have z02 : w.heap.size < w2.heap.size := (by omega)))
  go_region
  go_wp2_with fail
  exact bodyPost_ret (v := .tuple #[.slice A2 rs.length c2, .int .i64 H]) (by simp [results, Tryz.results48, go_sem, *]) rfl ⟨_, rfl, Kd.R_lower (Kd.R_drew HV2.out) (by first | omega | (simp; omega)), bel⟩
set_option maxHeartbeats 4000000 in
theorem made_top {D E L H W f : Int} {rs xs : List Int} (w : World)
    (HK : Hid (∀ w', Calls Tryz.prog 41 #[.int .i64 f] w' fun e w'' => e = .returned (.agg #[.int .i64 D, .int .i64 E, .int .i64 L, .int .i64 H, .int .i64 W, .int .i64 f]) ∧ Below w'.heap.size w' w''))
    (HG : Hid (∀ w', Calls Tryz.prog 48 #[.agg #[.int .i64 D, .int .i64 E, .int .i64 L, .int .i64 H, .int .i64 W, .int .i64 f]] w' (TopP rs H w')))
    (HM : Hid (∀ A2 c2 w', Below w.heap.size w w' → Kd.C (Kd.int .u32) w' A2 rs.length rs → rs.length ≤ c2 → Calls Tryz.prog 35 #[.int .i64 f, .bool false, .slice A2 rs.length c2, .int .i64 H] w' (DatumE f 1 false xs H 0 w')))
    (ef : ∀ args w, (callFunc 48 args).run Tryz.prog w = .ok (.enter 48 args) w) :
    Calls Tryz.prog 45 #[.int .i64 f, .func (.func 48) #[] #[]] w (DatumE f 1 false xs H 0 w) := by
  go_enter_defers Tryz.func45, Tryz.ntmps45
  go_wp2_with (first | fail | (go_at_call 41; (with_reducible refine (HK.out _).mono ?_); rintro e w1 ⟨rfl, b1⟩; obtain ⟨hc1, hf1⟩ := bcell b1; have hz1 := below_size b1; (try simp at hz1); have z01 : w.heap.size < w1.heap.size := (by omega); have z11 : w.heap.size + 1 < w1.heap.size := (by omega)))
  refine (HG.out _).mono ?_
  rintro e w2 ⟨v2, rfl, hv2, b2⟩
  obtain ⟨A2, c2, rfl⟩ := Kd.R_slice hv2
  have HC2 := Lib.hid (R_C hv2)
  clear hv2 ef
  obtain ⟨hc2, hf2⟩ := bcell b2
  have hz2 := below_size b2
  simp at hz2
  have z02 : w.heap.size < w2.heap.size := by omega
  have z12 : w.heap.size + 1 < w2.heap.size := by omega
  go_wp2_with (first | fail | (go_at_call 35; (with_reducible refine (HM.out _ _ _ bel HC2.out.1 HC2.out.2).mono ?_); rintro e w3 ⟨v3, rfl, hv3, b3⟩; obtain ⟨A3, c3, rfl⟩ := Kd.R_slice hv3; have HV3 := Lib.hid hv3; clear hv3; obtain ⟨hc3, hf3⟩ := bcell b3; have hz3 := below_size b3; (try simp at hz3); have z03 : w.heap.size < w3.heap.size := (by omega); have z13 : w.heap.size + 1 < w3.heap.size := (by omega)))
  (refine leaves_cons (f := 39) (args := #[.pointer (some ⟨w.heap.size + 1, 0, none⟩)]) (by simp) (by simp [go_sem]) ?_; refine (bcaught_idle _ _).mono ?_; rintro e u' w'' ⟨rfl, rfl, rfl⟩)
  exact ⟨.tuple #[.agg #[.int .i64 f, .int .i64 1, .bool false, .slice A3 xs.length c3, .int .i64 H], .int .i64 0], rresults (rs := [.cell 4 25, .cell 5 28]) rfl (by simp) (.cell w.heap.size rfl (load_agg (t := 25) blk0 Tryz.underlying25 rfl (by kernel_rfl)) (.cell (w.heap.size + 1) rfl (load_one (t := 28) blk0 (by kernel_rfl)) .nil)), _, rfl, Kd.R_lower (R_chg (S := fun k => k = w.heap.size ∨ k = w.heap.size + 1) HV3.out chg2 (by intro k hk; (try simp at hk ⊢); omega)) (by first | omega | (simp; omega)), bel⟩
set_option maxHeartbeats 2000000 in
theorem greatest_walk {f H : Int} {xs : List Int} (w : World) (HM : Hid (∀ w', Below w.heap.size w w' → Calls Tryz.prog 45 #[.int .i64 f, .func (.func 48) #[] #[]] w' (DatumE f 1 false xs H 0 w'))) :
    Calls Tryz.prog 14 #[.int .i64 f] w (DatumE f 1 false xs H 0 w) := by
  go_enter Tryz.func14, Tryz.ntmps14
  go_wp2_with (first | fail | (go_at_call 45; (with_reducible refine (HM.out _ bel).mono ?_); rintro e w3 ⟨v3, rfl, hv3, b3⟩; obtain ⟨A3, c3, rfl⟩ := Kd.R_slice hv3; have HV3 := Lib.hid hv3; clear hv3; obtain ⟨hc3, hf3⟩ := bcell b3; have hz3 := below_size b3; (try simp at hz3); have z03 : w.heap.size < w3.heap.size := (by omega)))
  exact bodyPost_ret (v := .tuple #[.agg #[.int .i64 f, .int .i64 1, .bool false, .slice A3 xs.length c3, .int .i64 H], .int .i64 0]) (by simp [results, Tryz.results14, go_sem, *]) rfl ⟨_, rfl, Kd.R_lower (R_chg (S := fun k => k = w.heap.size ∨ k = w.heap.size) HV3.out chg2 (by intro k hk h; have h2 : k = w.heap.size := (by rcases h with h | h <;> exact h); (try simp at hk); first | done | omega)) (by first | omega | (simp; done) | (simp; omega)), bel⟩
/-- The greatest finite datum. -/
theorem greatest_any {f : Int} (w : World) (hf : isFm f = true) (hT : Tab w) : Calls Tryz.prog 14 #[.int .i64 f] w (DatumE f 1 false (ofN (2 ^ (oneN f + 1) - 1)) (fmH f) 0 w) := by
  obtain ⟨o1, o2, o3⟩ : fmD f = ((oneN f + 1 : Nat) : Int) ∧ oneN f ≤ 112 ∧ makeR f false (ofN (2 ^ (oneN f + 1) - 1)) (fmH f) = (f, 1, false, ofN (2 ^ (oneN f + 1) - 1), fmH f, 0) := by
    rcases fm_cases hf with rfl | rfl | rfl | rfl | rfl <;> decide +kernel
  have hp : 1 ≤ 2 ^ (oneN f + 1) := Nat.two_pow_pos _
  have hs : 2 ^ (oneN f + 1) < 2 ^ 114 := Nat.pow_lt_pow_right (by decide) (by omega)
  have hok : okN (ofN (2 ^ (oneN f + 1))) = true := okN_small hs (by omega)
  have hle : (ofN (2 ^ (oneN f + 1) - 1)).length ≤ 1024 := small_len (k := 114) (Nat.lt_of_le_of_lt (Nat.sub_le _ _) hs) (by omega)
  have HPW : Hid (∀ w', Calls Tryz.prog 50 #[.int .i64 (fmD f)] w' (NewRow w' (ofN (2 ^ (oneN f + 1))))) := Lib.hid fun w' => by
    rw [o1]; exact power_any (oneN f + 1) w' (by omega)
  have HSB : Hid (∀ A2 c2 A3 w', Kd.C (Kd.int .u32) w' A2 (ofN (2 ^ (oneN f + 1))).length (ofN (2 ^ (oneN f + 1))) → (ofN (2 ^ (oneN f + 1))).length ≤ c2 → Kd.C (Kd.int .u32) w' A3 1 [1] → Calls Tryz.prog 49 #[.slice A2 (ofN (2 ^ (oneN f + 1))).length c2, .slice A3 1 1] w' (NumErr (ofN (2 ^ (oneN f + 1) - 1)) 0 w')) := Lib.hid fun A2 c2 A3 w' h1 h2 h3 => by
    have := nSub_any w' h1 h3 (lim_ofN _) (by intro x hx; simp at hx; omega) h2 (Nat.le_refl 1)
    have e1 : okN [1] = true := by decide
    have e2 : val [1] = 1 := by decide
    unfold natSub numRes subO numOut at this
    rw [hok, e1, val_ofN, e2] at this
    simp only [Bool.and_self, if_true] at this
    rw [if_neg (show ¬ (2 ^ (oneN f + 1) < 1) by omega), if_pos rfl, if_pos hle] at this
    exact this
  have HK := Lib.hid fun w' => kindOf_ok hf w'
  unfold kV at HK
  refine greatest_walk w (Lib.hid fun w' hb => made_top w' HK (Lib.hid fun w2 => top1 w2 HPW HSB) (Lib.hid fun A2 c2 w2 h1 h2 h3 => ?_) (enters_of Tryz.func48 (by kernel_rfl) rfl))
  exact binary_Make.calls f false A2 c2 (ofN (2 ^ (oneN f + 1) - 1)) (fmH f) f 1 false (ofN (2 ^ (oneN f + 1) - 1)) (fmH f) 0 w2 h2 h3 (by unfold binary_Make.f; rw [if_pos (u32L_ofN _), o3]) (hT.below (below_step hb h1))
end Go.Proofs.YtacnkcojhlbkoaaGreatDoor

set_option linter.unusedSimpArgs false
set_option linter.unusedVariables false
set_option linter.unnecessarySimpa false
namespace Go.Proofs.YtacnkcojhlbkoaaGreatDoor
open Go.RowKit Go.Proofs.YtacnkcojhlbkoaaGreatDoorW.PrintWords Go.Proofs.YtacnkcojhlbkoaaGreatDoorW.PrintLast Go.Proofs.YtacnkcojhlbkoaaGreatDoorW.PrintMore Go.Proofs.YtacnkcojhlbkoaaGreatDoor.NL
set_option maxRecDepth 100000
set_option exponentiation.threshold 130

set_option maxHeartbeats 4000000 in
theorem made_no {f : Int} {g : Nat} (w : World) (hf : isFm f = false) : Calls Tryz.prog 45 #[.int .i64 f, .func (.func g) #[] #[]] w (D0P 1 w) := by
  have HK := Lib.hid fun w' => kindOf_no hf w'
  clear hf
  go_enter_defers Tryz.func45, Tryz.ntmps45
  go_wp2_with (first | fail | (go_at_call 41; (with_reducible refine (HK.out _).mono ?_); rintro e w1 ⟨rfl, b1⟩; obtain ⟨hc1, hf1⟩ := bcell b1; have hz1 := below_size b1; (try simp at hz1)))
  (refine leaves_cons (f := 39) (args := #[.pointer (some ⟨w.heap.size + 1, 0, none⟩)]) (by simp) (by simp [go_sem]) ?_; refine (bcaught_panic (w.heap.size + 1) (1) 0 [] _ (BlkIs.one blk0)).mono ?_; rintro e u' w'' ⟨rfl, rfl, hch, hp⟩; have hp' : BlkIs w'' (w.heap.size + 1) 28 (· = #[.int .i64 (1)]) := ⟨_, hp, rfl⟩)
  have hd : BlkIs w'' w.heap.size 25 (· = #[.int .i64 0, .int .i64 0, .bool false, .slice none 0 0, .int .i64 0]) := blk0
  exact ⟨.tuple #[.agg #[.int .i64 0, .int .i64 0, .bool false, .slice none 0 0, .int .i64 0], .int .i64 1], rresults (rs := [.cell 4 25, .cell 5 28]) rfl (by simp) (.cell w.heap.size rfl (load_agg (t := 25) hd Tryz.underlying25 rfl (by kernel_rfl)) (.cell (w.heap.size + 1) rfl (load_one (t := 28) hp' (by kernel_rfl)) .nil)), .slice none 0 0, rfl, Kd.R_nil _ _ _ _ _, below_chg bel hch (by omega)⟩
def namedR (f : Int) (xs : List Int) (q : Int) : Int × Int × Bool × List Int × Int × Int := if isFm f then (f, 1, false, xs, q, 0) else (0, 0, false, [], 0, 1)
set_option maxHeartbeats 2000000 in
theorem least_gen {f f2 cl q er : Int} {ng : Bool} {xs : List Int} (w : World) (HM : Hid (∀ w', Below w.heap.size w w' → Calls Tryz.prog 45 #[.int .i64 f, .func (.func 46) #[] #[]] w' (DatumE f2 cl ng xs q er w'))) :
    Calls Tryz.prog 12 #[.int .i64 f] w (DatumE f2 cl ng xs q er w) := by
  go_enter Tryz.func12, Tryz.ntmps12
  go_wp2_with (first | fail | (go_at_call 45; (with_reducible refine (HM.out _ bel).mono ?_); rintro e w3 ⟨v3, rfl, hv3, b3⟩; obtain ⟨A3, c3, rfl⟩ := Kd.R_slice hv3; have HV3 := Lib.hid hv3; clear hv3; obtain ⟨hc3, hf3⟩ := bcell b3; have hz3 := below_size b3; (try simp at hz3); have z03 : w.heap.size < w3.heap.size := (by omega)))
  exact bodyPost_ret (v := .tuple #[.agg #[.int .i64 f2, .int .i64 cl, .bool ng, .slice A3 xs.length c3, .int .i64 q], .int .i64 er]) (by simp [results, Tryz.results12, go_sem, *]) rfl ⟨_, rfl, Kd.R_lower (R_chg (S := fun k => k = w.heap.size ∨ k = w.heap.size) HV3.out chg2 (by intro k hk h; have h2 : k = w.heap.size := (by rcases h with h | h <;> exact h); (try simp at hk); first | done | omega)) (by first | omega | (simp; done) | (simp; omega)), bel⟩
theorem least_any {f : Int} (w : World) (hf : isFm f = true) (hT : Tab w) : Calls Tryz.prog 12 #[.int .i64 f] w (DatumE f 1 false [1] (fmL f) 0 w) := by
  obtain ⟨o1, o2⟩ : fmL f = fmL f ∧ makeR f false [1] (fmL f) = (f, 1, false, [1], (fmL f), 0) := by
    rcases fm_cases hf with rfl | rfl | rfl | rfl | rfl <;> decide +kernel
  have HK := Lib.hid fun w' => kindOf_ok hf w'
  unfold kV at HK
  refine least_gen w (Lib.hid fun w' hb => made_any (rs := [1]) (ex := fmL f) w' HK (Lib.hid fun w2 => least_one w2 o1) (Lib.hid fun A2 c2 w2 h1 h2 h3 => ?_) (enters_of Tryz.func46 (by kernel_rfl) rfl))
  exact binary_Make.calls f false A2 c2 [1] (fmL f) f 1 false [1] (fmL f) 0 w2 h2 h3 (by unfold binary_Make.f; rw [if_pos (by decide), o2]) (hT.below (below_step hb h1))
def binary_Least.f (a0 : Int) : Option (Int × Int × Bool × List Int × Int × Int) := some (namedR a0 [1] (fmL a0))
theorem binary_Least.calls (a0 : Int) (r1 r2 : Int) (r3 : Bool) (r4 : List Int) (r5 r6 : Int) (w : World) (h : binary_Least.f a0 = some (r1, r2, r3, r4, r5, r6)) (hT : Tab w) :
    Calls Tryz.prog 12 #[.int .i64 a0] w fun e w' => ∃ v3_ : Value, e = .returned (.tuple #[.agg #[.int .i64 r1, .int .i64 r2, .bool r3, v3_, .int .i64 r5], .int .i64 r6]) ∧ Kd.R (Kd.int .u32) 40 w' w.heap.size (fun _ => True) v3_ r4 ∧ Below w.heap.size w w' := by
  unfold binary_Least.f namedR at h
  cases hf : isFm a0 with
  | false =>
    rw [hf, if_neg (by simp)] at h
    simp only [Option.some.injEq, Prod.mk.injEq] at h
    obtain ⟨rfl, rfl, rfl, rfl, rfl, rfl⟩ := h
    exact least_gen w (Lib.hid fun w' _ => made_no w' hf)
  | true =>
    rw [hf, if_pos rfl] at h
    simp only [Option.some.injEq, Prod.mk.injEq] at h
    obtain ⟨rfl, rfl, rfl, rfl, rfl, rfl⟩ := h
    exact least_any w hf hT
set_option maxHeartbeats 2000000 in
theorem lnorm_gen {f f2 cl q er : Int} {ng : Bool} {xs : List Int} (w : World) (HM : Hid (∀ w', Below w.heap.size w w' → Calls Tryz.prog 45 #[.int .i64 f, .func (.func 47) #[] #[]] w' (DatumE f2 cl ng xs q er w'))) :
    Calls Tryz.prog 13 #[.int .i64 f] w (DatumE f2 cl ng xs q er w) := by
  go_enter Tryz.func13, Tryz.ntmps13
  go_wp2_with (first | fail | (go_at_call 45; (with_reducible refine (HM.out _ bel).mono ?_); rintro e w3 ⟨v3, rfl, hv3, b3⟩; obtain ⟨A3, c3, rfl⟩ := Kd.R_slice hv3; have HV3 := Lib.hid hv3; clear hv3; obtain ⟨hc3, hf3⟩ := bcell b3; have hz3 := below_size b3; (try simp at hz3); have z03 : w.heap.size < w3.heap.size := (by omega)))
  exact bodyPost_ret (v := .tuple #[.agg #[.int .i64 f2, .int .i64 cl, .bool ng, .slice A3 xs.length c3, .int .i64 q], .int .i64 er]) (by simp [results, Tryz.results13, go_sem, *]) rfl ⟨_, rfl, Kd.R_lower (R_chg (S := fun k => k = w.heap.size ∨ k = w.heap.size) HV3.out chg2 (by intro k hk h; have h2 : k = w.heap.size := (by rcases h with h | h <;> exact h); (try simp at hk); first | done | omega)) (by first | omega | (simp; done) | (simp; omega)), bel⟩
theorem lnorm_any {f : Int} (w : World) (hf : isFm f = true) (hT : Tab w) : Calls Tryz.prog 13 #[.int .i64 f] w (DatumE f 1 false (ofN (2 ^ oneN f)) (fmL f) 0 w) := by
  obtain ⟨o1, o2⟩ : wrap64 (wrap64 (fmL f + fmD f) - 1) = fmL f + fmD f - 1 ∧ makeR f false [1] (fmL f + fmD f - 1) = (f, 1, false, (ofN (2 ^ oneN f)), (fmL f), 0) := by
    rcases fm_cases hf with rfl | rfl | rfl | rfl | rfl <;> decide +kernel
  have HK := Lib.hid fun w' => kindOf_ok hf w'
  unfold kV at HK
  refine lnorm_gen w (Lib.hid fun w' hb => made_any (rs := [1]) (ex := fmL f + fmD f - 1) w' HK (Lib.hid fun w2 => lnorm_one w2 o1) (Lib.hid fun A2 c2 w2 h1 h2 h3 => ?_) (enters_of Tryz.func47 (by kernel_rfl) rfl))
  exact binary_Make.calls f false A2 c2 [1] (fmL f + fmD f - 1) f 1 false (ofN (2 ^ oneN f)) (fmL f) 0 w2 h2 h3 (by unfold binary_Make.f; rw [if_pos (by decide), o2]) (hT.below (below_step hb h1))
def binary_LeastNormal.f (a0 : Int) : Option (Int × Int × Bool × List Int × Int × Int) := some (namedR a0 (ofN (2 ^ oneN a0)) (fmL a0))
theorem binary_LeastNormal.calls (a0 : Int) (r1 r2 : Int) (r3 : Bool) (r4 : List Int) (r5 r6 : Int) (w : World) (h : binary_LeastNormal.f a0 = some (r1, r2, r3, r4, r5, r6)) (hT : Tab w) :
    Calls Tryz.prog 13 #[.int .i64 a0] w fun e w' => ∃ v3_ : Value, e = .returned (.tuple #[.agg #[.int .i64 r1, .int .i64 r2, .bool r3, v3_, .int .i64 r5], .int .i64 r6]) ∧ Kd.R (Kd.int .u32) 40 w' w.heap.size (fun _ => True) v3_ r4 ∧ Below w.heap.size w w' := by
  unfold binary_LeastNormal.f namedR at h
  cases hf : isFm a0 with
  | false =>
    rw [hf, if_neg (by simp)] at h
    simp only [Option.some.injEq, Prod.mk.injEq] at h
    obtain ⟨rfl, rfl, rfl, rfl, rfl, rfl⟩ := h
    exact lnorm_gen w (Lib.hid fun w' _ => made_no w' hf)
  | true =>
    rw [hf, if_pos rfl] at h
    simp only [Option.some.injEq, Prod.mk.injEq] at h
    obtain ⟨rfl, rfl, rfl, rfl, rfl, rfl⟩ := h
    exact lnorm_any w hf hT
set_option maxHeartbeats 2000000 in
theorem eps_gen {f f2 cl q er : Int} {ng : Bool} {xs : List Int} (w : World) (HM : Hid (∀ w', Below w.heap.size w w' → Calls Tryz.prog 45 #[.int .i64 f, .func (.func 51) #[] #[]] w' (DatumE f2 cl ng xs q er w'))) :
    Calls Tryz.prog 15 #[.int .i64 f] w (DatumE f2 cl ng xs q er w) := by
  go_enter Tryz.func15, Tryz.ntmps15
  go_wp2_with (first | fail | (go_at_call 45; (with_reducible refine (HM.out _ bel).mono ?_); rintro e w3 ⟨v3, rfl, hv3, b3⟩; obtain ⟨A3, c3, rfl⟩ := Kd.R_slice hv3; have HV3 := Lib.hid hv3; clear hv3; obtain ⟨hc3, hf3⟩ := bcell b3; have hz3 := below_size b3; (try simp at hz3); have z03 : w.heap.size < w3.heap.size := (by omega)))
  exact bodyPost_ret (v := .tuple #[.agg #[.int .i64 f2, .int .i64 cl, .bool ng, .slice A3 xs.length c3, .int .i64 q], .int .i64 er]) (by simp [results, Tryz.results15, go_sem, *]) rfl ⟨_, rfl, Kd.R_lower (R_chg (S := fun k => k = w.heap.size ∨ k = w.heap.size) HV3.out chg2 (by intro k hk h; have h2 : k = w.heap.size := (by rcases h with h | h <;> exact h); (try simp at hk); first | done | omega)) (by first | omega | (simp; done) | (simp; omega)), bel⟩
theorem eps_any {f : Int} (w : World) (hf : isFm f = true) (hT : Tab w) : Calls Tryz.prog 15 #[.int .i64 f] w (DatumE f 1 false (ofN (2 ^ oneN f)) (2 - 2 * fmD f) 0 w) := by
  obtain ⟨o1, o2⟩ : wrap64 (1 - fmD f) = 1 - fmD f ∧ makeR f false [1] (1 - fmD f) = (f, 1, false, (ofN (2 ^ oneN f)), (2 - 2 * fmD f), 0) := by
    rcases fm_cases hf with rfl | rfl | rfl | rfl | rfl <;> decide +kernel
  have HK := Lib.hid fun w' => kindOf_ok hf w'
  unfold kV at HK
  refine eps_gen w (Lib.hid fun w' hb => made_any (rs := [1]) (ex := 1 - fmD f) w' HK (Lib.hid fun w2 => eps_one w2 o1) (Lib.hid fun A2 c2 w2 h1 h2 h3 => ?_) (enters_of Tryz.func51 (by kernel_rfl) rfl))
  exact binary_Make.calls f false A2 c2 [1] (1 - fmD f) f 1 false (ofN (2 ^ oneN f)) (2 - 2 * fmD f) 0 w2 h2 h3 (by unfold binary_Make.f; rw [if_pos (by decide), o2]) (hT.below (below_step hb h1))
def binary_Epsilon.f (a0 : Int) : Option (Int × Int × Bool × List Int × Int × Int) := some (namedR a0 (ofN (2 ^ oneN a0)) (2 - 2 * fmD a0))
theorem binary_Epsilon.calls (a0 : Int) (r1 r2 : Int) (r3 : Bool) (r4 : List Int) (r5 r6 : Int) (w : World) (h : binary_Epsilon.f a0 = some (r1, r2, r3, r4, r5, r6)) (hT : Tab w) :
    Calls Tryz.prog 15 #[.int .i64 a0] w fun e w' => ∃ v3_ : Value, e = .returned (.tuple #[.agg #[.int .i64 r1, .int .i64 r2, .bool r3, v3_, .int .i64 r5], .int .i64 r6]) ∧ Kd.R (Kd.int .u32) 40 w' w.heap.size (fun _ => True) v3_ r4 ∧ Below w.heap.size w w' := by
  unfold binary_Epsilon.f namedR at h
  cases hf : isFm a0 with
  | false =>
    rw [hf, if_neg (by simp)] at h
    simp only [Option.some.injEq, Prod.mk.injEq] at h
    obtain ⟨rfl, rfl, rfl, rfl, rfl, rfl⟩ := h
    exact eps_gen w (Lib.hid fun w' _ => made_no w' hf)
  | true =>
    rw [hf, if_pos rfl] at h
    simp only [Option.some.injEq, Prod.mk.injEq] at h
    obtain ⟨rfl, rfl, rfl, rfl, rfl, rfl⟩ := h
    exact eps_any w hf hT
set_option maxHeartbeats 2000000 in
theorem greatest_gen {f f2 cl q er : Int} {ng : Bool} {xs : List Int} (w : World) (HM : Hid (∀ w', Below w.heap.size w w' → Calls Tryz.prog 45 #[.int .i64 f, .func (.func 48) #[] #[]] w' (DatumE f2 cl ng xs q er w'))) :
    Calls Tryz.prog 14 #[.int .i64 f] w (DatumE f2 cl ng xs q er w) := by
  go_enter Tryz.func14, Tryz.ntmps14
  go_wp2_with (first | fail | (go_at_call 45; (with_reducible refine (HM.out _ bel).mono ?_); rintro e w3 ⟨v3, rfl, hv3, b3⟩; obtain ⟨A3, c3, rfl⟩ := Kd.R_slice hv3; have HV3 := Lib.hid hv3; clear hv3; obtain ⟨hc3, hf3⟩ := bcell b3; have hz3 := below_size b3; (try simp at hz3); have z03 : w.heap.size < w3.heap.size := (by omega)))
  exact bodyPost_ret (v := .tuple #[.agg #[.int .i64 f2, .int .i64 cl, .bool ng, .slice A3 xs.length c3, .int .i64 q], .int .i64 er]) (by simp [results, Tryz.results14, go_sem, *]) rfl ⟨_, rfl, Kd.R_lower (R_chg (S := fun k => k = w.heap.size ∨ k = w.heap.size) HV3.out chg2 (by intro k hk h; have h2 : k = w.heap.size := (by rcases h with h | h <;> exact h); (try simp at hk); first | done | omega)) (by first | omega | (simp; done) | (simp; omega)), bel⟩
def binary_Greatest.f (a0 : Int) : Option (Int × Int × Bool × List Int × Int × Int) := some (namedR a0 (ofN (2 ^ (oneN a0 + 1) - 1)) (fmH a0))
theorem binary_Greatest.calls (a0 : Int) (r1 r2 : Int) (r3 : Bool) (r4 : List Int) (r5 r6 : Int) (w : World) (h : binary_Greatest.f a0 = some (r1, r2, r3, r4, r5, r6)) (hT : Tab w) :
    Calls Tryz.prog 14 #[.int .i64 a0] w fun e w' => ∃ v3_ : Value, e = .returned (.tuple #[.agg #[.int .i64 r1, .int .i64 r2, .bool r3, v3_, .int .i64 r5], .int .i64 r6]) ∧ Kd.R (Kd.int .u32) 40 w' w.heap.size (fun _ => True) v3_ r4 ∧ Below w.heap.size w w' := by
  unfold binary_Greatest.f namedR at h
  cases hf : isFm a0 with
  | false =>
    rw [hf, if_neg (by simp)] at h
    simp only [Option.some.injEq, Prod.mk.injEq] at h
    obtain ⟨rfl, rfl, rfl, rfl, rfl, rfl⟩ := h
    exact greatest_gen w (Lib.hid fun w' _ => made_no w' hf)
  | true =>
    rw [hf, if_pos rfl] at h
    simp only [Option.some.injEq, Prod.mk.injEq] at h
    obtain ⟨rfl, rfl, rfl, rfl, rfl, rfl⟩ := h
    exact greatest_any w hf hT
end Go.Proofs.YtacnkcojhlbkoaaGreatDoor

set_option linter.unusedSimpArgs false
set_option linter.unusedVariables false
set_option linter.unnecessarySimpa false
namespace Go.Proofs.YtacnkcojhlbkoaaGreatDoor
open Go.RowKit Go.Proofs.YtacnkcojhlbkoaaGreatDoorW.PrintWords Go.Proofs.YtacnkcojhlbkoaaGreatDoorW.PrintLast Go.Proofs.YtacnkcojhlbkoaaGreatDoorW.PrintMore Go.Proofs.YtacnkcojhlbkoaaGreatDoor.NL
set_option maxRecDepth 100000

set_option maxHeartbeats 1000000 in
theorem rat_any (A : Option Addr) (n c : Nat) (a : List Int) (i : Nat) (w : World) (hC : Kd.C (Kd.int .u32) w A n a) (la : Lim a) (hn : n ≤ 9223372036854775807) (hi : i ≤ 9223372036854775807) :
    Calls Tryz.prog 83 #[.slice A n c, .int .i64 i] w fun e w' => e = .returned (.int .u64 (a.getD i 0)) ∧ w = w' := by
  have hl : a.length = n := hC.1
  by_cases h : i < n
  · obtain ⟨b, off, rfl, hlt, hcs⟩ := open_C hC (by omega)
    have hcell := hcs i h
    have hx : 0 ≤ a.getD i 0 ∧ a.getD i 0 < 4294967296 := la _ (by rw [List.getD_eq_getElem?_getD, List.getElem?_eq_getElem (by omega)]; exact List.getElem_mem _)
    obtain ⟨x0, x1⟩ := hx
    clear hcs hC
    have HL := Lib.hid hl
    clear hl
    generalize a.getD i 0 = x at *
    go_enter Tryz.func83, Tryz.ntmps83
    go_wp2
    go_ret
    exact ⟨rfl, rfl⟩
  · have hx : a.getD i 0 = 0 := by rw [List.getD_eq_getElem?_getD, List.getElem?_eq_none (by omega)]; rfl
    rw [hx]
    have HL := Lib.hid hl
    clear hl hC hx
    have hd : n ≤ i := by omega
    go_enter Tryz.func83, Tryz.ntmps83
    go_wp2
    go_ret
    exact ⟨rfl, rfl⟩
theorem bit_val {a : List Int} (la : Lim a) (k : Nat) : a.getD (k / 32) 0 / 2 ^ (k % 32) % 2 = ((val a / 2 ^ k % 2 : Nat) : Int) := by
  have h1 := digit la (k / 32)
  obtain ⟨h2, -⟩ := lim_getD la (k / 32)
  obtain ⟨x, hx⟩ := Int.eq_ofNat_of_zero_le h2
  rw [hx] at h1 ⊢
  simp only [Int.toNat_natCast] at h1
  have e : val a / 2 ^ k % 2 = x / 2 ^ (k % 32) % 2 := by
    have hr : k % 32 < 32 := Nat.mod_lt _ (by omega)
    rw [h1, show (4294967296 : Nat) = 2 ^ (k % 32) * 2 ^ (32 - k % 32) by rw [← Nat.pow_add, show k % 32 + (32 - k % 32) = 32 by omega], Nat.mod_mul_right_div_self, Nat.mod_mod_of_dvd _ (Nat.pow_dvd_pow 2 (show 1 ≤ 32 - k % 32 by omega)), Nat.div_div_eq_div_mul, W_two, ← Nat.pow_add, show 32 * (k / 32) + k % 32 = k by omega]
  rw [e]
  simp
theorem bit_below {n k : Nat} (h0 : n ≠ 0) (hk : k < tz n) : n / 2 ^ k % 2 = 0 := by
  obtain ⟨m, -, hm⟩ := tz_spec h0
  obtain ⟨t, ht⟩ : ∃ t, tz n = k + (t + 1) := ⟨tz n - k - 1, by omega⟩
  rw [ht, Nat.pow_add, Nat.mul_left_comm] at hm
  rw [hm, Nat.mul_div_cancel_left _ (Nat.two_pow_pos k), Nat.pow_succ, ← Nat.mul_assoc, Nat.mul_mod_left]
theorem bit_tz {n : Nat} (h0 : n ≠ 0) : n / 2 ^ tz n % 2 = 1 := by
  obtain ⟨m, h1, hm⟩ := tz_spec h0
  have : n / 2 ^ tz n = m := by
    conv => lhs; arg 1; rw [hm]
    exact Nat.mul_div_cancel _ (Nat.two_pow_pos _)
  rw [this, h1]
theorem tz_le_len {n k : Nat} (h0 : n ≠ 0) (h : n < 2 ^ k) : tz n ≤ k := by
  obtain ⟨m, h1, hm⟩ := tz_spec h0
  have h2 : 2 ^ tz n ≤ n := by
    conv => rhs; rw [hm]
    exact Nat.le_mul_of_pos_left _ (by omega)
  exact Nat.le_of_lt ((Nat.pow_lt_pow_iff_right (by omega)).1 (Nat.lt_of_le_of_lt h2 h))
set_option maxHeartbeats 1000000 in
theorem rbit_any (A : Option Addr) (n c : Nat) (a : List Int) (k : Nat) (w : World) (hC : Kd.C (Kd.int .u32) w A n a) (la : Lim a) (hn : n ≤ 1000000000) (hk : k ≤ 1000000000000) :
    Calls Tryz.prog 82 #[.slice A n c, .int .i64 k] w fun e w' => e = .returned (.int .u64 ((val a / 2 ^ k % 2 : Nat) : Int)) ∧ w = w' := by
  have H := Lib.hid (rat_any A n c a (k / 32) w hC la (by omega) (by omega))
  have hv := bit_val la k
  rw [← hv]
  obtain ⟨x0, x1⟩ := lim_getD la (k / 32)
  generalize a.getD (k / 32) 0 = x at *
  obtain ⟨q, hq⟩ : ∃ q, k / 32 = q := ⟨_, rfl⟩
  obtain ⟨r, hr⟩ : ∃ r, k % 32 = r := ⟨_, rfl⟩
  have hqi : (k : Int) / 32 = (q : Int) := by omega
  have hri : (k : Int) % 32 = (r : Int) := by omega
  have hr9 : r < 32 := by omega
  have hx9 : x < 18446744073709551616 := by omega
  rw [hq] at H
  rw [hr]
  have hp : (0 : Int) < 2 ^ r := Int.pow_pos (by omega)
  have htm : (x / 2 ^ r).tmod 2 = x / 2 ^ r % 2 := Int.tmod_eq_emod_of_nonneg (Int.ediv_nonneg x0 (Int.le_of_lt hp))
  clear hp
  clear hC hv hq hr
  go_enter Tryz.func82, Tryz.ntmps82
  go_wp2_with fail
  refine (H.out).mono ?_
  rintro e w1 ⟨rfl, rfl⟩
  go_wp2
  go_ret
  exact ⟨rfl, rfl⟩
set_option maxHeartbeats 1000000 in
theorem rzeros_any (A : Option Addr) (n c : Nat) (a : List Int) (w : World) (hC : Kd.C (Kd.int .u32) w A n a) (la : Lim a) (ta : Top a) (hn : n ≤ 1000000) :
    Calls Tryz.prog 52 #[.slice A n c] w fun e w' => e = .returned (.int .i64 (tz (val a) : Nat)) ∧ w = w' := by
  have hl : a.length = n := hC.1
  by_cases h0 : n = 0
  · subst h0
    obtain rfl := List.eq_nil_of_length_eq_zero hl
    rw [show tz (val ([] : List Int)) = 0 from tz_zero]
    clear hC hl
    go_enter Tryz.func52, Tryz.ntmps52
    go_wp2
    go_loopw [3] (fun vi wr => vi = .int .i64 (0 : Int) ∧ Hid (wr = w)) (fun _ _ => 0)
    case atStart => exact ⟨rfl, Lib.hid rfl⟩
    case round =>
      obtain ⟨rfl, hw⟩ := hrel
      go_wp2
      go_ret
      exact ⟨rfl, hw.out.symm⟩
  · have hv : val a ≠ 0 := Nat.ne_of_gt (val_pos la ta (by intro h; rw [h] at hl; simp at hl; omega))
    have HB := Lib.hid fun k => @bit_below (val a) k hv
    have HZ := Lib.hid (bit_tz hv)
    have hlt := val_lt la
    rw [hl, show (4294967296 : Nat) ^ n = 2 ^ (32 * n) from W_two n] at hlt
    have ht9 := tz_le_len hv hlt
    have HBIT := Lib.hid fun k (hk : k ≤ 1000000000000) => rbit_any A n c a k w hC la (by omega) hk
    have hn0 : 0 < n := by omega
    generalize val a = x at *
    generalize hT : tz x = T at *
    have hT9 : T ≤ 32000000 := by omega
    clear hC hl hv hlt h0 ht9
    go_enter Tryz.func52, Tryz.ntmps52
    go_wp2
    go_loopw [3] (fun vi wr => ∃ k : Nat, vi = .int .i64 k ∧ k ≤ T ∧ Hid (wr = w)) (fun vi _ => T - (intOf vi).toNat)
    case atStart => exact ⟨0, rfl, by omega, Lib.hid rfl⟩
    case round =>
      obtain ⟨k, rfl, hk, hw⟩ := hrel
      obtain rfl : w = wr := hw.out.symm
      clear hw
      have H1 := HBIT.out k (by omega)
      by_cases hkT : k < T
      · rw [HB.out k hkT] at H1
        have H2 := Lib.hid H1
        clear H1
        go_wp2_with fail
        refine (H2.out).mono ?_
        rintro e w1 ⟨rfl, rfl⟩
        go_wp2
        go_roundw
        case rel => exact ⟨k + 1, by simp, by omega, Lib.hid (by first | trivial | rfl)⟩
        case measure => simp [intOf]; omega
      · obtain rfl : k = T := by omega
        rw [HZ.out] at H1
        have H2 := Lib.hid H1
        clear H1
        go_wp2_with fail
        refine (H2.out).mono ?_
        rintro e w1 ⟨rfl, rfl⟩
        go_wp2
        go_ret
        exact ⟨rfl, rfl⟩
end Go.Proofs.YtacnkcojhlbkoaaGreatDoor

set_option linter.unusedSimpArgs false
set_option linter.unusedVariables false
set_option linter.unnecessarySimpa false
namespace Go.Proofs.YtacnkcojhlbkoaaGreatDoor
open Go.RowKit Go.Proofs.YtacnkcojhlbkoaaGreatDoorW.PrintWords Go.Proofs.YtacnkcojhlbkoaaGreatDoorW.PrintLast Go.Proofs.YtacnkcojhlbkoaaGreatDoorW.PrintMore Go.Proofs.YtacnkcojhlbkoaaGreatDoor.NL
set_option maxRecDepth 100000

set_option maxHeartbeats 4000000 in
theorem rmake_ok {f ex D E L H W b q lo X : Int} {ng : Bool} {A : Option Addr} {n c z : Nat} {o r : List Int} (w : World) (hn : 0 < n)
    (HFm : Hid (∀ w', Calls Tryz.prog 17 #[.int .i64 f] w' fun e w'' => e = .returned (.agg #[.int .i64 D, .int .i64 E, .int .i64 L, .int .i64 H, .int .i64 W]) ∧ Below w'.heap.size w' w''))
    (HZ : Hid (∀ w', Below w.heap.size w w' → Calls Tryz.prog 52 #[.slice A n c] w' fun e w'' => e = .returned (.int .i64 z) ∧ w' = w''))
    (HS : Hid (∀ w', Below w.heap.size w w' → Calls Tryz.prog 53 #[.slice A n c, .int .i64 z] w' (NewRow w' o)))
    (HB : Hid (∀ A' c' w', Kd.C (Kd.int .u32) w' A' o.length o → o.length ≤ c' → Calls Tryz.prog 33 #[.slice A' o.length c'] w' fun e w'' => e = .returned (.int .i64 b) ∧ Below w'.heap.size w' w''))
    (HSh : Hid (∀ A' c' w', Kd.C (Kd.int .u32) w' A' o.length o → o.length ≤ c' → Calls Tryz.prog 54 #[.slice A' o.length c', .int .i64 (lo - q)] w' (NewRow w' r)))
    (e1 : decide (ex > 100000) = false) (e2 : decide (ex < -100000) = false) (hlo : wrap64 (ex + (z : Int)) = lo) (e3 : decide (b > D) = false) (e4 : decide (lo < L) = false) (hX : wrap64 (wrap64 (lo + b) - D) = X) (hq : max L X = q) (e5 : decide (q > H) = false) (hs : wrap64 (lo - q) = lo - q) :
    Calls Tryz.prog 19 #[.int .i64 f, .bool ng, .slice A n c, .int .i64 ex] w fun e w' => ∃ v, e = .returned (.agg #[.int .i64 f, .int .i64 1, .bool ng, v, .int .i64 q, .bool true]) ∧ Kd.R (Kd.int .u32) 40 w' w.heap.size (fun _ => True) v r ∧ Below w.heap.size w w' := by
  have hn0 : ((n : Int) == 0) = false := by simp; omega
  go_enter Tryz.func19, Tryz.ntmps19
  go_wp2_with fail
  refine (HFm.out _).mono ?_
  rintro e w1 ⟨rfl, b1⟩
  obtain ⟨hc1, hf1⟩ := bcell b1
  have hz1 := below_size b1
  simp at hz1
  have z01 : w.heap.size < w1.heap.size := by omega
  go_wp2_with fail
  refine (HZ.out _ bel).mono ?_
  rintro e w2 ⟨rfl, rfl⟩
  go_wp2_with fail
  refine (HS.out _ bel).mono ?_
  rintro e w3 ⟨v3, rfl, hv3, b3⟩
  obtain ⟨A3, c3, rfl⟩ := Kd.R_slice hv3
  have HC3 := Lib.hid (R_C hv3)
  clear hv3
  obtain ⟨hc3, hf3⟩ := bcell b3
  have hz3 := below_size b3
  simp at hz3
  have z03 : w.heap.size < w3.heap.size := by omega
  have z13 : w1.heap.size < w3.heap.size := by omega
  go_wp2_with fail
  refine (HB.out _ _ _ HC3.out.1 HC3.out.2).mono ?_
  rintro e w4 ⟨rfl, b4⟩
  obtain ⟨hc4, hf4⟩ := bcell b4
  have hz4 := below_size b4
  have z04 : w.heap.size < w4.heap.size := by omega
  have z14 : w1.heap.size < w4.heap.size := by omega
  go_wp2_with fail
  refine (HSh.out _ _ _ (Kd.C_below HC3.out.1 b4) HC3.out.2).mono ?_
  rintro e w5 ⟨v5, rfl, hv5, b5⟩
  obtain ⟨A5, c5, rfl⟩ := Kd.R_slice hv5
  have HV5 := Lib.hid hv5
  clear hv5
  obtain ⟨hc5, hf5⟩ := bcell b5
  have hz5 := below_size b5
  have z05 : w.heap.size < w5.heap.size := by omega
  have zz : ∀ ob : Obj, w.heap.size < (w1.alloc ob).heap.size := fun ob => by show w.heap.size < (w1.heap.push ob).size; rw [Array.size_push]; omega
  have nz : w.heap.size ≠ w1.heap.size := by omega
  have g0 : w5.cell? ⟨w.heap.size, 0, none⟩ = some (.int .i64 0) := by
    rw [hc5 _ _ z04, hc4 _ _ z03, hc3 _ _ (zz _)]
    simp [go_sem, nz, Ne.symm nz, z01, hc1]
  have g1 : w5.cell? ⟨w.heap.size, 1, none⟩ = some (.int .i64 0) := by
    rw [hc5 _ _ z04, hc4 _ _ z03, hc3 _ _ (zz _)]
    simp [go_sem, nz, Ne.symm nz, z01, hc1]
  have g2 : w5.cell? ⟨w.heap.size, 2, none⟩ = some (.bool false) := by
    rw [hc5 _ _ z04, hc4 _ _ z03, hc3 _ _ (zz _)]
    simp [go_sem, nz, Ne.symm nz, z01, hc1]
  have g3 : w5.cell? ⟨w.heap.size, 3, none⟩ = some (.slice none 0 0) := by
    rw [hc5 _ _ z04, hc4 _ _ z03, hc3 _ _ (zz _)]
    simp [go_sem, nz, Ne.symm nz, z01, hc1]
  have g4 : w5.cell? ⟨w.heap.size, 4, none⟩ = some (.int .i64 0) := by
    rw [hc5 _ _ z04, hc4 _ _ z03, hc3 _ _ (zz _)]
    simp [go_sem, nz, Ne.symm nz, z01, hc1]
  have g5 : w5.cell? ⟨w.heap.size, 5, none⟩ = some (.bool false) := by
    rw [hc5 _ _ z04, hc4 _ _ z03, hc3 _ _ (zz _)]
    simp [go_sem, nz, Ne.symm nz, z01, hc1]
  clear zz
  go_wp2_with fail
  clear hc1 hc3 hc4 hc5
  exact bodyPost_ret (v := .agg #[.int .i64 f, .int .i64 1, .bool ng, .slice A5 r.length c5, .int .i64 q, .bool true]) (by simp [results, Tryz.results19, go_sem, *]) rfl ⟨_, rfl, Kd.R_lower (R_chg (S := fun k => k = w.heap.size ∨ k = w.heap.size) HV5.out chg2 (by intro k hk h; have h2 : k = w.heap.size := (by rcases h with h | h <;> exact h); (try simp at hk); first | done | omega)) (by first | omega | (simp; done) | (simp; omega)), bel⟩
end Go.Proofs.YtacnkcojhlbkoaaGreatDoor

set_option linter.unusedSimpArgs false
set_option linter.unusedVariables false
set_option linter.unnecessarySimpa false
namespace Go.Proofs.YtacnkcojhlbkoaaGreatDoor
open Go.RowKit Go.Proofs.YtacnkcojhlbkoaaGreatDoorW.PrintWords Go.Proofs.YtacnkcojhlbkoaaGreatDoorW.PrintLast Go.Proofs.YtacnkcojhlbkoaaGreatDoorW.PrintMore Go.Proofs.YtacnkcojhlbkoaaGreatDoor.NL
set_option maxRecDepth 100000

set_option maxHeartbeats 4000000 in
theorem rtrim_any (A : Option Addr) (c : Nat) (l : List Int) (w : World) (hC : Kd.C (Kd.int .u32) w A l.length l) (la : Lim l) (hc : l.length ≤ c) (hn : l.length ≤ 1000000000) :
    Calls Tryz.prog 84 #[.slice A l.length c] w (NewRow w (ofN (val l))) := by
  obtain ⟨n, hl⟩ : ∃ n, l.length = n := ⟨_, rfl⟩
  rw [hl] at hC hc hn ⊢
  have HL := Lib.hid hl
  have HC := Lib.hid hC
  have HA := Lib.hid la
  have hcell : Hid (∀ k, k < n → ∃ b off, A = some ⟨b, off, none⟩ ∧ w.cell? ⟨b, off + k, none⟩ = some (.int .u32 (l.getD k 0))) := Lib.hid fun k hk => by
    obtain ⟨b, off, h1, -, h2⟩ := open_C HC.out (by omega)
    exact ⟨b, off, h1, h2 k hk⟩
  clear hl hC la
  go_enter Tryz.func84, Tryz.ntmps84
  go_wp2
  go_loop [3] (fun vi => ∃ k : Nat, k ≤ n ∧ vi = .int .i64 k ∧ val (l.take k) = val l) (fun vi => (intOf vi).toNat)
  case atStart => exact ⟨n, Nat.le_refl _, rfl, by rw [take_all (by rw [HL.out]; exact Nat.le_refl _)]⟩
  case round =>
    obtain ⟨k, hk, rfl, hv⟩ := hrel
    have HV := Lib.hid hv
    clear hv
    have END : Hid ((k = 0 ∨ ∃ j, k = j + 1 ∧ l.getD j 0 ≠ 0) → l.take k = ofN (val l)) := Lib.hid fun h => trim_end HA.out (by rw [HL.out]; exact hk) HV.out h
    have HCk : Hid (Kd.C (Kd.int .u32) w A k (l.take k)) := Lib.hid (C_head HC.out hk)
    have HLk : Hid ((l.take k).length = k) := Lib.hid (by rw [List.length_take, HL.out]; omega)
    by_cases h0 : k = 0
    · subst h0
      have HE := Lib.hid (END.out (.inl rfl))
      clear END
      rcases A with _ | ⟨b, off, sp⟩
      · go_wp2_with (at_builtin; refine Kd.R_append_rows (Kd.int .u32) (w0 := w) w.heap.size rfl (.tmp 18) (.tmp 21) 23 40 (.int .u32 0) 4 rfl Tryz.underlying23 infoU32 rfl (by decide) (by omega) _ [] (l.take 0) _ 0 c (fun _ => True) (fun _ => False) rfl rfl (R_fresh w w.heap.size rfl [] #[] rfl 0 rfl (Nat.le_refl _) (by simp)) (Kd.C_below HCk.out bel) (fun _ _ h => h) (fun _ h => h.elim) (fun _ _ => trivial) bel (by simp) (by first | (simp; done) | (simp; omega)) ?_; intro v1 w1 hv hb _ _; obtain ⟨A1, c1, rfl⟩ := Kd.R_slice hv)
        go_ret
        exact ⟨_, rfl, by rw [← HE.out]; exact hv, hb⟩
      · go_wp2_with (at_builtin; refine Kd.R_append_rows (Kd.int .u32) (w0 := w) w.heap.size rfl (.tmp 18) (.tmp 21) 23 40 (.int .u32 0) 4 rfl Tryz.underlying23 infoU32 rfl (by decide) (by omega) _ [] (l.take 0) _ 0 c (fun _ => True) (fun _ => False) rfl rfl (R_fresh w w.heap.size rfl [] #[] rfl 0 rfl (Nat.le_refl _) (by simp)) (Kd.C_below HCk.out bel) (fun _ _ h => h) (fun _ h => h.elim) (fun _ _ => trivial) bel (by simp) (by first | (simp; done) | (simp; omega)) ?_; intro v1 w1 hv hb _ _; obtain ⟨A1, c1, rfl⟩ := Kd.R_slice hv)
        go_ret
        exact ⟨_, rfl, by rw [← HE.out]; exact hv, hb⟩
    · obtain ⟨j, rfl⟩ : ∃ j, k = j + 1 := ⟨k - 1, by omega⟩
      obtain ⟨b, off, rfl, hcl⟩ := hcell.out j (by omega)
      obtain ⟨x0, x1⟩ := lim_getD HA.out j
      have hj1 : ((j : Int) + 1 - 1) = (j : Int) := by omega
      have hwj : IntKind.i64.wrap (j : Int) = (j : Int) := by rw [IntKind.wrap_i64]; omega
      by_cases hx : l.getD j 0 = 0
      · have HS : Hid (val (l.take j) = val l) := Lib.hid (by
          obtain ⟨k', e, h1, h2⟩ := TrimRel.step (A := none) (c := 0) (k := j) (by rw [HL.out]; omega) HV.out hx
          injection e with _ e _
          subst e
          exact h2)
        rw [hx] at hcl
        clear END hx x0 x1
        go_wp2
        go_round
        case rel => exact ⟨j, by omega, by simp, HS.out⟩
        case measure => simp [intOf]
      · have HE := Lib.hid (END.out (.inr ⟨j, rfl, hx⟩))
        have t0 : (l.getD j 0 == 0) = false := by simpa using hx
        clear END hx
        generalize l.getD j 0 = x at *
        go_wp2_with (at_builtin; refine Kd.R_append_rows (Kd.int .u32) (w0 := w) w.heap.size rfl (.tmp 18) (.tmp 21) 23 40 (.int .u32 0) 4 rfl Tryz.underlying23 infoU32 rfl (by decide) (by omega) _ [] (l.take (j + 1)) _ (j + 1) c (fun _ => True) (fun _ => False) rfl rfl (R_fresh w w.heap.size rfl [] #[] rfl 0 rfl (Nat.le_refl _) (by simp)) (Kd.C_below HCk.out bel) (fun _ _ h => h) (fun _ h => h.elim) (fun _ _ => trivial) bel (by simp) (by first | (simp; done) | (simp; omega) | (rw [HLk.out]; simp; omega)) ?_; intro v1 w1 hv hb _ _; obtain ⟨A1, c1, hvv⟩ := Kd.R_slice hv; rw [show (([] : List Int) ++ l.take (j + 1)).length = j + 1 from HLk.out] at hvv; subst hvv)
        go_ret
        exact ⟨_, rfl, by rw [← HE.out]; exact hv, hb⟩
end Go.Proofs.YtacnkcojhlbkoaaGreatDoor

set_option linter.unusedSimpArgs false
set_option linter.unusedVariables false
set_option linter.unnecessarySimpa false
namespace Go.Proofs.YtacnkcojhlbkoaaGreatDoor
open Go.RowKit Go.Proofs.YtacnkcojhlbkoaaGreatDoorW.PrintWords Go.Proofs.YtacnkcojhlbkoaaGreatDoorW.PrintLast Go.Proofs.YtacnkcojhlbkoaaGreatDoorW.PrintMore Go.Proofs.YtacnkcojhlbkoaaGreatDoor.NL
def sorobanref01_Trim.f (l0 : List Int) : Option (List Int) := if u32L l0 && decide (l0.length ≤ 1000000000) then some (ofN (val l0)) else none
theorem sorobanref01_Trim.calls (A0 : Option Addr) (c0 : Nat) (l0 : List Int) (r : List Int) (w : World) (hr0 : Kd.C (Kd.int .u32) w A0 l0.length l0) (hc0 : l0.length ≤ c0) (h : sorobanref01_Trim.f l0 = some r) :
    Calls Tryz.prog 84 #[.slice A0 l0.length c0] w fun e w' => ∃ v0_ : Value, e = .returned (v0_) ∧ Kd.R (Kd.int .u32) 40 w' w.heap.size (fun _ => True) v0_ r ∧ Below w.heap.size w w' := by
  unfold sorobanref01_Trim.f at h
  split at h
  · rename_i hb
    simp only [Bool.and_eq_true, decide_eq_true_eq] at hb
    simp only [Option.some.injEq] at h
    subst h
    exact rtrim_any A0 c0 l0 w hr0 (u32L_of hb.1) hc0 hb.2
  · cases h
end Go.Proofs.YtacnkcojhlbkoaaGreatDoor

set_option linter.unusedSimpArgs false
set_option linter.unusedVariables false
set_option linter.unnecessarySimpa false
namespace Go.Proofs.YtacnkcojhlbkoaaGreatDoor
open Go.RowKit Go.Proofs.YtacnkcojhlbkoaaGreatDoorW.PrintWords Go.Proofs.YtacnkcojhlbkoaaGreatDoorW.PrintLast Go.Proofs.YtacnkcojhlbkoaaGreatDoorW.PrintMore Go.Proofs.YtacnkcojhlbkoaaGreatDoor.NL
set_option maxRecDepth 100000

/-- 'make' with a length and a capacity. -/
theorem make_row2 {P : Program} {ops : Array Oper} {rest : List Oper} {o : Oper} {a : Act} {Q : Exit → Act → World → Prop} {W w0 : World} (hp : P = Tryz.prog) (hgd : o.guard = none) (x y : Operand) (ho : o.op = .makeSlice 23 x y) (n c : Nat)
    (hx : a.eval x = .int .i64 n) (hy : a.eval y = .int .i64 c) (hnc : n ≤ c) (hl : c ≤ 1000000000) (HB : Below w0.heap.size w0 W)
    (h : ∀ A w1, OwnI .u32 40 w0.heap.size w1 (.slice A n c) (List.replicate n 0) → Below w0.heap.size w0 w1 → wpList P ops Q rest (a.put o.dst (.slice A n c)) w1) : wpList P ops Q (o :: rest) a W := by
  subst hp
  obtain ⟨i, hi, hzz⟩ := Option.map_eq_some_iff.1 infoU32
  simp only [Prod.mk.injEq] at hzz
  obtain ⟨hz0, hz1, hz2⟩ := hzz
  have hr := run_make (P := Tryz.prog) W 23 40 i (.int .u32 0) Tryz.underlying23 hi hz0 .i64 .i64 (n : Int) (c : Int) (by omega) (by omega) (by rw [hz2]; omega) (by omega)
  simp only [Int.toNat_natCast] at hr
  rw [hz1] at hr
  refine wpList_plain hgd fun K hK' => ?_
  unfold Oper.wp
  simp [execOp, ho, hx, hy, hr, Result.andThen]
  refine hK' _ _ (h _ _ ?_ (below_alloc HB _))
  have h1 := R_fresh (k := .u32) (e := 40) (base := w0.heap.size) W W.heap.size rfl (List.replicate c 0) (madeCells (Value.int .u32 0).cells c) (by
    apply Array.toList_inj.1
    show (madeCells #[Value.int .u32 0] c).toList = _
    rw [toList_madeCells_one]
    simp [nums]) c (by simp) HB.size (by simp; omega)
  have h2 := R_pre h1 hnc
  rwa [List.take_replicate, Nat.min_eq_left hnc] at h2
/-- The same, as the printed walks ask for it. -/
theorem make_two {P : Program} {ops : Array Oper} {rest : List Oper} {o : Oper} {a : Act} {Q : Exit → Act → World → Prop} {W : World} (hp : P = Tryz.prog) (hgd : o.guard = none) (x y : Operand) (ho : o.op = .makeSlice 23 x y) (n c : Int)
    (hx : a.eval x = .int .i64 n) (hy : a.eval y = .int .i64 c) (h0 : 0 ≤ n) (hnc : n ≤ c) (hl : c ≤ 1000000000)
    (h : ∀ v w1, Kd.R (Kd.int .u32) 40 w1 W.heap.size (fun _ => True) v (List.replicate n.toNat 0) → Below W.heap.size W w1 → wpList P ops Q rest (a.put o.dst v) w1) : wpList P ops Q (o :: rest) a W := by
  obtain ⟨n, rfl⟩ := Int.eq_ofNat_of_zero_le h0
  obtain ⟨c, rfl⟩ := Int.eq_ofNat_of_zero_le (show 0 ≤ c by omega)
  exact make_row2 (w0 := W) hp hgd x y ho n c hx hy (by omega) (by omega) (Below.refl _ _) fun A w1 h1 h2 => h _ w1 h1 h2
end Go.Proofs.YtacnkcojhlbkoaaGreatDoor

namespace Go.Proofs.YtacnkcojhlbkoaaGreatDoor.XShl
open Go.RowKit Go.Proofs.YtacnkcojhlbkoaaGreatDoorW.PrintWords Go.Proofs.YtacnkcojhlbkoaaGreatDoorW.PrintLast Go.Proofs.YtacnkcojhlbkoaaGreatDoorW.PrintMore
attribute [local go_sem] max2_int min2_int max_two min_two max_three min_three max_four min_four   -- for this text's walks alone
set_option linter.unusedVariables false
set_option linter.unusedSimpArgs false

def errW : Option Int → Value
  | none => .nilIface
  | some c => .iface 0 (.int .i64 c)
theorem errW_none : errW none = .nilIface := rfl
theorem errW_some (c : Int) : errW (some c) = .iface 0 (.int .i64 c) := rfl

theorem info40 : (Tryz.prog.info? 40).map (fun i => (i.zero, i.size, i.bytes)) = some (some (.int .u32 0), 1, 4) := by kernel_rfl
-- the values' own types

end Go.Proofs.YtacnkcojhlbkoaaGreatDoor.XShl
